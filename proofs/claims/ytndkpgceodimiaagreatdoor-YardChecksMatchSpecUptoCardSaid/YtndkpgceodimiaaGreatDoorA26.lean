/-
  Part of the proof of statement 10
-/
import Derived.Test.YtndkpgceodimiaaGreatDoorA19
import Derived.Test.YtndkpgceodimiaaGreatDoorA25
import Derived.Test.YtndkpgceodimiaaGreatDoorA07
import Derived.Test.YtndkpgceodimiaaGreatDoorA17
import Derived.Test.YtndkpgceodimiaaGreatDoorA06
import Derived.Test.YtndkpgceodimiaaGreatDoorRows
set_option linter.unusedVariables false
set_option maxRecDepth 100000
set_option maxHeartbeats 16000000
namespace Go.Proofs.YtndkpgceodimiaaGreatDoor
open Go Go.Av Go.aI
attribute [local congr] aV aO aP aL aX aR aQ aH aY
attribute [local irreducible] FC bY eX
def tJ (p:AV×List aI.V):Prop:=(p.1=.aS/\p.2=[])\/p.1=.aU 0 3 (bS p.2)
def sI (ps:List (AV×List aI.V)):List (List AV):=ps.map fun p=>[p.1]
def KK (pv:AV) (ps:List (AV×List aI.V)):Prop:=(pv=.aS/\ps=[])\/pv=.aU 0 1 (sI ps)
theorem tJ.free {p:AV×List aI.V} (h:tJ p):p.1.free=true:=by
 rcases h with ⟨h,_⟩|h
 · rw[h];rfl
 rw[h];exact cV rfl _
theorem Oy {ps:List (AV×List aI.V)} (h:∀p∈ps,tJ p):dM (sI ps)=true:=by
 induction ps with
 |nil=>simp only[sI,Fg,dM]
 |cons p ps ih=>have h1:=(h p Ax).free;have h2:=ih fun x hx=>h x (Ay _ hx);simp only[sI] at h2;simp only[sI,Bv,dM,bL,h1,h2,Df]
theorem KK.free {pv:AV} {ps:List (AV×List aI.V)} (h:KK pv ps) (hp:∀p∈ps,tJ p):pv.free=true:=by
 rcases h with ⟨h,_⟩|h
 · rw[h];rfl
 rw[h];simp only[AV.free,Oy hp];rfl
def vM (v:aI.V):Bool:=(decide (v.x>4096)||decide (v.x< -4096))||((decide (v.y>4096)||decide (v.y< -4096))||(decide (v.z>4096)||decide (v.z< -4096)))
noncomputable def fQ (l:List aI.V):Int:=if pQ l≠0 then pQ l else if l.any vM then 1 else 0
def XK (m0 m1 r0 r1:Int):Bool:=decide (m0<1)||(decide (m1<m0)||(decide (m1>1099511627776)||(decide (r0<0)||(decide (r1<r0)||decide (r1>4000)))))
noncomputable def Om (ps:List (List aI.V)):Bool:=(List.range ps.length).any fun i=>(List.range i).any fun k=> !nX (ps.getD i []) (ps.getD k [])
noncomputable def xD (ps:List (List aI.V)):Int:=match ps.find? fun l=> !decide (fQ l=0) with
 |some l=>fQ l
 |none=>if Om ps then 150 else 0
noncomputable def lT (name:List UInt8) (ps:List (List aI.V)) (m0 m1 r0 r1:Int):Int:=
 if mH name=false then 5 else if ps.length<1\/8<ps.length then 2 else if XK m0 m1 r0 r1=true then 1 else xD ps
theorem PA {ls:List (List aI.V)} {i:Nat} (hi:i<ls.length) (h:∀j (hj:j<i),fQ (ls[j]'(Ci hj hi))=0) (he:fQ ls[i]≠0):xD ls=fQ ls[i]:=by
 have :ls.find? (fun l=> !decide (fQ l=0))=some ls[i]:=by rw[List.find?_eq_some_iff_getElem];exact⟨by simp[he],i,hi,rfl,fun j hj=>by simp[h j hj]⟩
 unfold xD;rw[this]
theorem FO {ls:List (List aI.V)} (h:∀l∈ls,fQ l=0):xD ls=if Om ls then 150 else 0:=by
 have :ls.find? (fun l=> !decide (fQ l=0))=none:=by rw[Hv];exact fun l hl=>by simp[h l hl]
 unfold xD;rw[this]
theorem cz {l:List aI.V} (h:fQ l=0):pQ l=0/\∀v∈l,vM v=false:=by
 unfold fQ at h;split at h
 · rename_i h1;exact absurd h h1
 rename_i h1;split at h
 · cases h
 rename_i h2
 exact⟨Decidable.not_not.1 h1,fun v hv=>by
  cases hf:vM v with
  |false=>rfl
  |true=>exact absurd (Bu.2 ⟨v,hv,hf⟩) h2⟩
theorem On {ls:List (List aI.V)} {i k:Nat} (hi:i<ls.length) (hk:k<i) (h:nX ls[i] (ls[k]'(Ci hk hi))=false):Om ls=true:=by unfold Om;rw[Bu];refine⟨i,Ba.2 hi,?_⟩;rw[Bu];refine⟨k,Ba.2 hk,?_⟩;have rF:=Ci hk hi;simp only[List.getD,Ab hi,Ab rF,Bi,h,Gm]
theorem BC {ls:List (List aI.V)} (h:∀i k (hi:i<ls.length) (hk:k<i),nX ls[i] (ls[k]'(Ci hk hi))=true):Om ls=false:=by unfold Om;rw[Ek];intro i hi;rw[Ba] at hi;simp only[Fe];rw[Ek];intro k hk;rw[Ba] at hk;have rF:=Ci hk hi;simp only[List.getD,Ab hi,Ab rF,Bi,h i k hi hk];decide
theorem QH {p:AV×List aI.V} (h:tJ p) (hlen:p.2.length<2^30) (H:aA):Sg 50 [.agg [p.1]] H (.ret (.int .i64 (pQ p.2))) H:=by
 rcases h with ⟨h1,h2⟩|h1
 · rw[h1,h2,GZ];exact QI H
 rw[h1];exact TD rfl hlen (xH _) (pB (xH _).Rw) H
def kR (name:List UInt8) (pv:AV) (m0 m1 r0 r1:Int):List AV:=[.str name,pv,.int .i64 m0,.int .i64 m1,.int .i64 r0,.int .i64 r1]
theorem QY {name:List UInt8} (wO:name.length<2^63) {ps:List (AV×List aI.V)} (GC:∀p∈ps,tJ p) (hlen:∀p∈ps,p.2.length<2^30) (qQ:ps.length<2^30) (m0 m1 r0 r1:Int) (H:aA):
 Sg 26 [.agg (kR name (.aU 0 1 (sI ps)) m0 m1 r0 r1)] H (.ret (.int .i64 (lT name (ps.map (·.2)) m0 m1 r0 r1))) H:=by
 have JX:bL [AV.agg (kR name (.aU 0 1 (sI ps)) m0 m1 r0 r1)]=true:=by simp only[sf,kR,Oy GC]
 refine So aZg JX ?_ H;have xL:(ps.map (·.2)).length=ps.length:=Ai _;unfold W26;dsimp only;have DJ:(sI ps).length=ps.length:=Ai _;have d1:decide ((ps.length:Int)<1)=decide (ps.length<1):=by rw[Bb];omega
 have d2:decide ((ps.length:Int)>8)=decide (8<ps.length):=by rw[Bb];omega
 refine bQ ?_;simp only[↓zP,zJ,seval,kR];refine bR ?_;refine aG fun K hK=>?_;refine aF ?_;refine aG fun K2 bK=>?_;simp only[↓zP,zJ,seval];have kj:=WX name wO
 cases hv:mH name with
 |false=>rw[hv] at kj;refine bW (kj _) ?_;simp only[↓zP,zJ,seval];apply bK;clear bK K2;simp only[↓zP,zG,seval];refine Rx ?_;unfold lT;rw[if_pos hv];rfl
 |true=>
 rw[hv] at kj;refine bW (kj _) ?_;simp only[↓zP,zJ,seval];apply bK;clear bK K2;refine BS false (by simp only[zB,seval]) (fun h=>by cases h) (fun _=>?_);refine aG fun K2 bK=>?_
 cases h1:decide (ps.length<1) with
 |true=>rw[h1] at d1;simp only[↓zP,zJ,seval,DJ,d1];apply bK;clear bK K2;simp only[↓zP,zG,seval];refine Rx ?_;unfold lT;rw[if_neg (by rw[hv];decide),if_pos (.inl (by rw[xL];exact Cc h1))];rfl
 |false=>
 rw[h1] at d1
 cases h2:decide (8<ps.length) with
 |true=>rw[h2] at d2;simp only[↓zP,zJ,seval,DJ,d1,d2];apply bK;clear bK K2;simp only[↓zP,zG,seval];refine Rx ?_;unfold lT;rw[if_neg (by rw[hv];decide),if_pos (.inr (by rw[xL];exact Cc h2))];rfl
 |false=>
 rw[h2] at d2
 have HV:XK m0 m1 r0 r1=true->lT name (ps.map (·.2)) m0 m1 r0 r1=1:=fun hb=>by unfold lT;rw[if_neg (by rw[hv];decide),if_neg (by rw[xL];intro h;rcases h with h|h;exact Cs h1 h;exact Cs h2 h),if_pos hb]
 have hB0:XK m0 m1 r0 r1=false->lT name (ps.map (·.2)) m0 m1 r0 r1=xD (ps.map (·.2)):=fun hb=>by unfold lT;rw[if_neg (by rw[hv];decide),if_neg (by rw[xL];intro h;rcases h with h|h;exact Cs h1 h;exact Cs h2 h),if_neg (by rw[hb];decide)]
 unfold XK at HV hB0
 have key:∀f':dD,lT name (ps.map (·.2)) m0 m1 r0 r1=(xD (ps.map (·.2)))->f' 1=.ref 0 0->K f' [] ((⟨0,.nil⟩:aA).alloc (.cells [.str name,.aU 0 1 (sI ps),.int .i64 m0,.int .i64 m1,.int .i64 r0,.int .i64 r1] false)):=by
  intro f' IH f1;rw[IH] at hK;apply hK;clear hK bK K2 K HV hB0
  have hF:∀i (hi:i<ps.length),(∀j (hj:j<i),fQ (ps[j]'(Ci hj hi)).2=0)->fQ ps[i].2≠0->xD (ps.map (·.2))=fQ ps[i].2:=fun i hi h1 h2=>by have :=PA (ls:=ps.map (·.2)) (i:=i) (by rw[xL];exact hi) (fun j hj=>by rw[Ch];exact h1 j hj) (by rw[Ch];exact h2);rw[this,Ch]
  simp only[↓zP,zJ,seval,f1,DJ];refine bO [] (fun i vs H'=>(∀j (hj:j<i) (hl:j<ps.length),fQ ps[j].2=0)/\H'.get 0=some (.cells [.str name,.aU 0 1 (sI ps),.int .i64 m0,.int .i64 m1,.int .i64 r0,.int .i64 r1] false)/\1<=H'.next) ps.length (by omega) (by decide) ?_ ?_ ?_ ?_ ?_
  · simp only[zB,seval]
  · simp only[zB,seval]
  · exact⟨fun j hj=>absurd hj (As _),by simp only[zI,seval],by simp only[zI,seval]⟩
  · rintro i f H1 hi hk e1 ⟨hJ,g0,hn⟩;have hg:(sI ps).getD i []=[ps[i].1]:=eR hi;have hp:=GC _ (Ac hi);have hl:=hlen _ (Ac hi);have hFi:=hF i hi (fun j hj=>hJ j hj (Ci hj hi))
    have hJn:fQ ps[i].2=0->∀j (hj:j<i+1) (hl:j<ps.length),fQ ps[j].2=0:=fun h j hj hl=>by
     by_cases e:j=i
     · subst e;exact h
     exact hJ j (by omega) hl
    generalize ps[i]=p at *;obtain⟨pv,l⟩:=p;simp only at hg hp hl hFi hJn;have hc:=QH hp hl;simp only at hc;have Wr:¬(0=H1.next):=(by omega);refine aF ?_;refine bQ ?_;simp only[↓zP,zJ,seval,e1,hk 70 rfl,aB,DJ,hi,hg];refine bR ?_;refine aG fun K2 bK=>?_;simp only[↓zP,zJ,seval];refine bW (hc _) ?_;by_cases he:pQ l=0
    · have hb:(pQ l != 0)=false:=(by simp[he]);obtain⟨_,_,_,_,_,OA,aUk⟩:=xP he
      obtain⟨rfl⟩:pv=.aU 0 3 (bS l):=by
       rcases hp with ⟨_,h⟩|h
       · exact absurd h OA
       exact h
      have aRc:l.any vM=false->fQ l=0:=fun h=>by unfold fQ;rw[if_neg (by simp[he]),h];rfl
      have Sz:l.any vM=true->fQ l=1:=fun h=>by unfold fQ;rw[if_neg (by simp[he]),h];rfl
      simp only[↓zP,zG,seval,hb];apply bK;clear bK K2;simp only[↓zP,zJ,seval,aN];generalize hX:(H1.alloc _).set H1.next _=H4;have y0:H4.get 0=some (.cells [.str name,.aU 0 1 (sI ps),.int .i64 m0,.int .i64 m1,.int .i64 r0,.int .i64 r1] false):=(by subst hX;rw[aA.aC,if_neg Wr,aA.aJ,if_neg Wr];exact g0);have yn:1<=H4.next:=(by subst hX;simp only[aA.aW,aA.aZ];omega);clear hX;refine bO [] (fun j vs H'=>(∀k (hk:k<j) (hl:k<l.length),vM l[k]=false)/\H'.get 0=some (.cells [.str name,.aU 0 1 (sI ps),.int .i64 m0,.int .i64 m1,.int .i64 r0,.int .i64 r1] false)/\1<=H'.next) l.length (by omega) (by decide) ?_ ?_ ?_ ?_ ?_
      · simp only[zB,seval]
      · simp only[zB,seval]
      · exact⟨fun k hk=>absurd hk (As _),y0,yn⟩
      · rintro j f2 H2 hj dP e2 ⟨vz,g02,KA⟩;have hgv:=cF hj
        have we:vM l[j]=false->∀k (hk:k<j+1) (hl:k<l.length),vM l[k]=false:=fun h k hk hl=>by
         by_cases e:k=j
         · subst e;exact h
         exact vz k (by omega) hl
        have yR:vM l[j]=true->l.any vM=true:=fun h=>Bu.2 ⟨l[j],Ac hj,h⟩;generalize l[j]=v at *;have qy:¬(0=H2.next):=(by omega);have v0:(cG v).getD 0 aD=.int .i64 v.x:=rfl;have v1:(cG v).getD 1 aD=.int .i64 v.y:=rfl;have v2:(cG v).getD 2 aD=.int .i64 v.z:=rfl;have w0:=Xg v.x 4096 (by decide);have w1:=Xg v.y 4096 (by decide);have w2:=Xg v.z 4096 (by decide);rw[show(-4096:Int)= -(4096) from rfl] at *;unfold vM at we yR;refine aF ?_;refine bQ ?_;simp only[↓zP,zJ,seval,e2,dP 82 rfl,aB,aN,hj,hgv,oL (aM v)];refine bR ?_;refine aG fun K2 bK=>?_;simp only[↓zP,zJ,seval,nC,v0,aM];refine bW (w0 _) ?_
        cases c0:(decide (v.x>4096)||decide (v.x< -4096)) with
        |true=>rw[c0] at yR;simp only[↓zP,zG,seval];apply bK;clear bK K2;simp only[↓zP,zG,seval];refine Rx ?_;rw[hFi (by rw[Sz (yR rfl)];decide),Sz (yR rfl)];rfl
        |false=>
        rw[c0] at yR we;simp only[↓zP,zJ,seval,nC,v1,aM];refine bW (w1 _) ?_
        cases c1:(decide (v.y>4096)||decide (v.y< -4096)) with
        |true=>rw[c1] at yR;simp only[↓zP,zG,seval];apply bK;clear bK K2;simp only[↓zP,zG,seval];refine Rx ?_;rw[hFi (by rw[Sz (yR rfl)];decide),Sz (yR rfl)];rfl
        |false=>
        rw[c1] at yR we;simp only[↓zP,zJ,seval,nC,v2,aM];refine bW (w2 _) ?_
        cases c2:(decide (v.z>4096)||decide (v.z< -4096)) with
        |true=>rw[c2] at yR;simp only[↓zP,zG,seval];apply bK;clear bK K2;simp only[↓zP,zG,seval];refine Rx ?_;rw[hFi (by rw[Sz (yR rfl)];decide),Sz (yR rfl)];rfl
        |false=>
        rw[c2] at we;simp only[↓zP,zG,seval];apply bK;clear bK K2;simp only[↓zP,zJ,seval];exact⟨we rfl,by rw[if_neg qy,if_neg qy];exact g02,trivial⟩
      rintro f2 H2 dP ⟨vz,g02,KA⟩
      have :l.any vM=false:=by rw[Ek];intro v hv;obtain⟨k,hk,rfl⟩:=Dm hv;rw[vz k hk hk];decide
      simp only[↓zP,seval];exact⟨hJn (aRc this),g02,KA⟩
    have hb:(pQ l != 0)=true:=(by simp[he]);have hpc:fQ l=pQ l:=(by unfold fQ;rw[if_pos he]);simp only[↓zP,zG,seval,hb];refine Rx ?_;rw[hFi (by rw[hpc];exact he),hpc];rfl
  rintro f H1 hk ⟨hJ,g0,hn⟩;have bM:∀j (hl:j<ps.length),fQ ps[j].2=0:=fun j hl=>hJ j hl hl
  have hR:=FO (ls:=ps.map (·.2)) (fun l hl=>by
   obtain⟨p,hp,rfl⟩:=Bf.1 hl;obtain⟨j,hj,rfl⟩:=Dm hp
   exact bM j hj)
  have OF:∀j (hl:j<ps.length),pQ ps[j].2=0/\ps[j].1=.aU 0 3 (bS ps[j].2):=fun j hl=>by
   have h0:=(cz (bM j hl)).1;refine⟨h0,?_⟩
   rcases GC _ (Ac hl) with ⟨_,h⟩|h
   · rw[h,GZ] at h0;cases h0
   exact h
  have f1':f 1=.ref 0 0:=by rw[hk 1 rfl];simp only[zB,seval];exact f1
  simp only[↓zP,zJ,seval,f1',g0,DJ];refine bO [] (fun i vs H'=>(∀a k (ha:a<i) (hl:a<ps.length) (hk:k<a),nX ps[a].2 (ps[k]'(Ci hk hl)).2=true)/\H'.get 0=some (.cells [.str name,.aU 0 1 (sI ps),.int .i64 m0,.int .i64 m1,.int .i64 r0,.int .i64 r1] false)/\1<=H'.next) ps.length (by omega) (by decide) ?_ ?_ ?_ ?_ ?_
  · simp only[zB,seval]
  · simp only[zB,seval]
  · exact⟨fun a k ha=>absurd ha (As _),g0,hn⟩
  · rintro i f2 H2 hi dP e2 ⟨vz,g02,KA⟩;have hg:(sI ps).getD i []=[ps[i].1]:=eR hi;obtain⟨sQ,pU⟩:=OF i hi
    have hJn:(∀k (hk:k<i),nX ps[i].2 (ps[k]'(Ci hk hi)).2=true)->∀a k (ha:a<i+1) (hl:a<ps.length) (hk:k<a),nX ps[a].2 (ps[k]'(Ci hk hl)).2=true:=fun h a k ha hl hk=>by
     by_cases e:a=i
     · subst e;exact h k hk
     exact vz a k (by omega) hl hk
    have hov:∀k (hk:k<i),nX ps[i].2 (ps[k]'(Ci hk hi)).2=false->xD (ps.map (·.2))=150:=fun k hk h=>by have :=On (ls:=ps.map (·.2)) (i:=i) (k:=k) (by rw[xL];exact hi) hk (by rw[Ch,Ch];exact h);rw[hR,this];rfl
    have f21:f2 1=.ref 0 0:=(by rw[dP 1 rfl];simp only[zB,seval];exact f1');have qy:¬(0=H2.next):=(by omega);have nM:(sI ps).take i=sI (ps.take i):=by simp[sI]
    have IF:rZ 1 (.aU 0 1 (sI ps)) none (some i) none=some (.aU 0 1 (sI (ps.take i))):=by simp only[rZ,Dx,Bi];rw[if_pos ⟨trivial,Az _,by rw[DJ];omega⟩,if_neg (by rw[DJ];omega),Ef,Ic,nM]
    have hpi:(sI (ps.take i)).length=i:=(by simp[sI];omega);rw[pU] at hg;refine aF ?_;refine bQ ?_;simp only[↓zP,zJ,seval,e2,dP 104 rfl,aB,DJ,hi,hg];refine bR ?_;simp only[↓zP,zJ,seval,f21,qy,g02,dQ,aB,IF,Cj,Bd,hpi];generalize hX:(H2.alloc _).set H2.next _=H4;have y0:H4.get 0=some (.cells [.str name,.aU 0 1 (sI ps),.int .i64 m0,.int .i64 m1,.int .i64 r0,.int .i64 r1] false):=(by subst hX;rw[aA.aC,if_neg qy,aA.aJ,if_neg qy];exact g02);have yn:H2.next<H4.next:=(by subst hX;simp);have y9:H4.get H2.next=some (.cells [.aU 0 3 (bS ps[i].2)] false):=(by subst hX;rw[aA.aC,if_pos rfl]);clear hX;refine bO [] (fun k vs H'=>(∀a (ha:a<k) (hl:a<i),nX ps[i].2 (ps[a]'(Ci hl hi)).2=true)/\H'.get 0=some (.cells [.str name,.aU 0 1 (sI ps),.int .i64 m0,.int .i64 m1,.int .i64 r0,.int .i64 r1] false)/\H2.next<H'.next/\H'.get H2.next=some (.cells [.aU 0 3 (bS ps[i].2)] false)) i (by omega) (by decide) ?_ ?_ ?_ ?_ ?_
    · simp only[zB,seval]
    · simp only[zB,seval]
    · exact⟨fun a ha=>absurd ha (As _),y0,yn,y9⟩
    · rintro k f3 H3 Xt mB e3 ⟨hJ3,g03,ai,g93⟩;have xW:=Ci Xt hi;obtain⟨Pg,zH⟩:=OF k xW
      have VH:(sI (ps.take i)).getD k []=[ps[k].1]:=by have h1:k<(ps.take i).length:=(by simp;omega);have :(sI (ps.take i)).getD k []=[(ps.take i)[k].1]:=eR h1;rw[this,List.getElem_take]
      rw[zH] at VH;have hd:=aEh (ta:=0) (tb:=0) rfl rfl sQ Pg
      have aQj:nX ps[i].2 ps[k].2=true->∀a (ha:a<k+1) (hl:a<i),nX ps[i].2 (ps[a]'(Ci hl hi)).2=true:=fun h a ha hl=>by
       by_cases e:a=k
       · subst e;exact h
       exact hJ3 a (by omega) hl
      have aRb:=hov k Xt;generalize ps[k]=q at *;generalize bEa:ps[i]=p at *;have nx3:¬(0=H3.next):=(by omega);have nx9:¬(H2.next=H3.next):=(by omega);refine aF ?_;refine bQ ?_;simp only[↓zP,zJ,seval,e3,mB 114 rfl,aB,hpi,Xt,VH];refine bR ?_;refine aG fun K2 bK=>?_;simp only[↓zP,zJ,seval,mB 9 rfl,nx9,g93];refine bW (hd _) ?_
      cases hdb:nX p.2 q.2 with
      |true=>simp only[↓zP,zJ,seval];apply bK;clear bK K2;simp only[↓zP,zJ,seval];exact⟨aQj hdb,by rw[if_neg nx3,if_neg nx3];exact g03,by omega,by rw[if_neg nx9,if_neg nx9];exact g93⟩
      |false=>simp only[↓zP,zJ,seval];apply bK;clear bK K2;simp only[↓zP,zG,seval];refine Rx ?_;rw[aRb hdb];rfl
    rintro f3 H3 mB ⟨hJ3,g03,ai,g93⟩;simp only[↓zP,seval];exact⟨hJn fun k hk=>hJ3 k hk hk,g03,by omega⟩
  rintro f2 H2 dP ⟨vz,g02,KA⟩
  have :=BC (ls:=ps.map (·.2)) (fun a k ha hk=>by
   rw[Ch,Ch]
   exact vz a k (by rwa [xL] at ha) (by rwa [xL] at ha) hk)
  simp only[↓zP,seval];refine Rx ?_;rw[hR,this];rfl
 clear hK;simp only[↓zP,zJ,seval,DJ,d1,d2];apply bK;clear bK K2;refine BS false (by simp only[zB,seval]) (fun h=>by cases h) (fun _=>?_);refine dT fun f hf=>?_;have f1:f 1=.ref 0 0:=by subst hf;simp only[zB,seval]
 clear hf
 cases g1:decide (m0<1) with
 |true=>rw[g1] at HV;simp only[↓zP,zJ,seval,f1,nC,g1];refine Rx ?_;rw[HV (by simp)];rfl
 |false=>
 cases g2:decide (m1<m0) with
 |true=>rw[g2] at HV;simp only[↓zP,zJ,seval,f1,nC,g1,g2];refine Rx ?_;rw[HV (by simp)];rfl
 |false=>
 cases g3:decide (m1>1099511627776) with
 |true=>rw[g3] at HV;simp only[↓zP,zJ,seval,f1,nC,g1,g2,g3];refine Rx ?_;rw[HV (by simp)];rfl
 |false=>
 cases g4:decide (r0<0) with
 |true=>rw[g4] at HV;simp only[↓zP,zJ,seval,f1,nC,g1,g2,g3,g4];refine Rx ?_;rw[HV (by simp)];rfl
 |false=>
 cases g5:decide (r1<r0) with
 |true=>rw[g5] at HV;simp only[↓zP,zJ,seval,f1,nC,g1,g2,g3,g4,g5];refine Rx ?_;rw[HV (by simp)];rfl
 |false=>
 cases g6:decide (r1>4000) with
 |true=>rw[g6] at HV;simp only[↓zP,zJ,seval,f1,nC,g1,g2,g3,g4,g5,g6];refine Rx ?_;rw[HV (by simp)];rfl
 |false=>rw[g1,g2,g3,g4,g5,g6] at hB0;simp only[↓zP,zJ,seval,f1,nC,g1,g2,g3,g4,g5,g6];exact key _ (hB0 rfl) (by simp only[zB,seval];exact f1)
theorem fe {name:List UInt8} (wO:name.length<2^63) (m0 m1 r0 r1:Int) (H:aA):
 Sg 26 [.agg (kR name .aS m0 m1 r0 r1)] H (.ret (.int .i64 (lT name [] m0 m1 r0 r1))) H:=by
 refine So aZg (by simp only[sf,kR]) ?_ H;unfold W26;dsimp only;refine bQ ?_;simp only[↓zP,zJ,seval,kR];refine bR ?_;refine aG fun K hK=>?_;refine aF ?_;refine aG fun K2 bK=>?_;simp only[↓zP,zJ,seval];have kj:=WX name wO;have d1:decide ((0:Int)<1)=true:=rfl
 cases hv:mH name with
 |false=>rw[hv] at kj;refine bW (kj _) ?_;simp only[↓zP,zJ,seval];apply bK;clear bK K2;simp only[↓zP,zG,seval];refine Rx ?_;unfold lT;rw[if_pos hv];rfl
 |true=>rw[hv] at kj;refine bW (kj _) ?_;simp only[↓zP,zJ,seval];apply bK;clear bK K2;refine BS false (by simp only[zB,seval]) (fun h=>by cases h) (fun _=>?_);refine bQ ?_;simp only[↓zP,zJ,seval,Gn];refine bR ?_;simp only[↓zP,zG,seval];refine Rx ?_;unfold lT;rw[if_neg (by rw[hv];decide),if_pos (.inl (by decide))];rfl
theorem rq {name:List UInt8} (wO:name.length<2^63) {pv:AV} {ps:List (AV×List aI.V)} (Ks:KK pv ps) (GC:∀p∈ps,tJ p) (hlen:∀p∈ps,p.2.length<2^30) (qQ:ps.length<2^30) (m0 m1 r0 r1:Int) (H:aA):
 Sg 26 [.agg (kR name pv m0 m1 r0 r1)] H (.ret (.int .i64 (lT name (ps.map (·.2)) m0 m1 r0 r1))) H:=by
 rcases Ks with ⟨h1,h2⟩|h1
 · rw[h1,h2];exact fe wO m0 m1 r0 r1 H
 rw[h1];exact QY wO GC hlen qQ m0 m1 r0 r1 H
end Go.Proofs.YtndkpgceodimiaaGreatDoor
namespace Go.Proofs.YtndkpgceodimiaaGreatDoor
open Go Go.Av
def lO (v:AV) (sz:Nat) (els:List (List AV)):Prop:=(v=.aS/\els=[])\/v=.aU 0 sz els
theorem lO.len {v:AV} {sz:Nat} {els:List (List AV)} (h:lO v sz els) (H:aA):cX (fun _=>v) H (.OQ (.tmp 0))=some (.int .i64 els.length,H):=by rcases h with ⟨rfl,rfl⟩|rfl<;>rfl
theorem lO.aU {v:AV} {sz:Nat} {els:List (List AV)} (h:lO v sz els) {i:Nat} (hi:i<els.length):v=.aU 0 sz els:=by
 rcases h with ⟨_,rfl⟩|h
 · exact absurd hi (As _)
 exact h
theorem jJ {els:List (List AV)} (h:∀e∈els,bL e=true):dM els=true:=by
 induction els with
 |nil=>rfl
 |cons e els ih=>simp only[dM,h e Ax,ih fun x hx=>h x (Ay _ hx),Df]
theorem lO.free {v:AV} {sz:Nat} {els:List (List AV)} (h:lO v sz els) (hf:∀e∈els,bL e=true):v.free=true:=by
 rcases h with ⟨rfl,_⟩|rfl
 · rfl
 simp only[AV.free,jJ hf];rfl
structure Th where
 kind:Int
 name:List UInt8
 pv:AV
 ps:List (AV×List aI.V)
 m0:Int
 m1:Int
 r0:Int
 r1:Int
 store:List Int
def Th.cs (t:Th):List AV:=AV.int .i64 t.kind::(kR t.name t.pv t.m0 t.m1 t.r0 t.r1++iC t.store)
structure Th.OK (t:Th):Prop where
 name:t.name.length<2^63
 parts:KK t.pv t.ps
 part:∀p∈t.ps,tJ p
 store:t.store.length=7
 i64:yY t.store
def Th.Few (t:Th):Prop:=t.ps.length<2^30/\∀p∈t.ps,p.2.length<2^30
theorem Th.len {t:Th} (h:t.OK):t.cs.length=14:=by simp[Th.cs,kR,cN,h.store]
def vL (v:aI.V):List Int:=[v.x,v.y,v.z]
theorem aRt (l:List aI.V):bS l=(l.map vL).map iC:=by unfold bS;rw[En];rfl
def YD (l:List aI.V):Bool:=(l.map vL).all (wR 4096)
noncomputable def QU (t:Th):Int:=
 if(decide (t.kind=1)||decide (t.kind=2))=false\/iO t.store≠0 then 1
 else if lT t.name (t.ps.map (·.2)) t.m0 t.m1 t.r0 t.r1≠0 then lT t.name (t.ps.map (·.2)) t.m0 t.m1 t.r0 t.r1
 else if t.ps.all (fun p=>YD p.2) then 0 else 1
noncomputable def FX:List (List UInt8)->List Th->Int
 |_,[]=>0
 |seen,t::ts=>if QU t≠0 then QU t else if t.name∈seen then 6 else FX (seen++[t.name]) ts
theorem SA {seen:List (List UInt8)} {ts:List Th} {i:Nat} (hi:i<ts.length):FX seen (ts.drop i)=if QU ts[i]≠0 then QU ts[i] else if ts[i].name∈seen then 6 else FX (seen++[ts[i].name]) (ts.drop (i+1)):=by rw[Ct hi];rfl
def KS (n:Int) (r:List Int):Bool:=decide (r.getD 0 0<0)||(decide (r.getD 0 0>n)||(decide (r.getD 1 0<0)||(decide (r.getD 1 0>n)||(r.getD 0 0==r.getD 1 0||(!wR (kB (r.getD 0 0)) ((r.drop 2).take 3)|| !wR (kB (r.getD 1 0)) ((r.drop 5).take 3))))))
def KR (n:Int) (p:List Int):Bool:=decide (p.getD 0 0<1)||(decide (p.getD 0 0>n)||(!wR 4096 ((p.drop 1).take 3)||(!wR 1099511627776 ((p.drop 4).take 3)|| !wR 1099511627776 ((p.drop 7).take 3))))
def vA (n r p:Nat):Bool:=decide ((n:Int)>64)||(decide ((r:Int)>16)||decide ((p:Int)>16))
def XL (g r0 r1:Int):Bool:=decide (g<0)||(decide (g>1048576)||(decide (r0<0)||(decide (r0>r1)||decide (r1>4000))))
noncomputable def tN (g r0 r1:Int) (ts:List Th) (rs ps:List (List Int)):Int:=
 if vA ts.length rs.length ps.length then 2 else if XL g r0 r1 then 1 else if FX [] ts≠0 then FX [] ts
 else if rs.any (KS ts.length) then 1 else if ps.any (KR ts.length) then 1 else 0
def yC (g r0 r1:Int) (tv rv pv:AV):List AV:=[.int .i64 g,.int .i64 r0,.int .i64 r1,tv,rv,pv]
def uH (ts:List Th):List (List AV):=ts.map Th.cs
theorem dE (ts:List Th):(uH ts).length=ts.length:=Ai _
theorem oQ {ts:List Th} {i:Nat} (hi:i<ts.length):(uH ts).getD i []=ts[i].cs:=by simp[uH,hi]
def cC (l:List (List Int)):List (List AV):=l.map iC
theorem bG (l:List (List Int)):(cC l).length=l.length:=Ai _
theorem dY {l:List (List Int)} {i:Nat} (hi:i<l.length):(cC l).getD i []=iC l[i]:=by simp[cC,hi]
theorem kE {ts:List Th} (h:∀t∈ts,t.OK):∀e∈uH ts,bL e=true:=fun e he=>by obtain⟨t,ht,rfl⟩:=Bf.1 he;have :=h t ht;simp only[Th.cs,kR,gS,sf,jC,this.parts.free this.part]
theorem bU (l:List (List Int)):∀e∈cC l,bL e=true:=fun e he=>by obtain⟨w,_,rfl⟩:=Bf.1 he;exact jC w
def Pw (l:List (List UInt8)):List (AV×AV):=l.map fun s=>(.str s,.bool true)
theorem Up {s:List UInt8}:∀{l:List (List UInt8)} {i:Nat},s∉l->gN .s (.str s) (Pw l) i=some none
 |[],_,_=>rfl
 |x::l,i,h=>by
  have h1:(s==x)=false:=by rw[Ce];exact fun e=>h (by rw[e];exact Ax)
  simp only[Pw,Bv,gN,sameKey,h1];exact Up fun hh=>h (Ay _ hh)
theorem Qv {s:List UInt8}:∀{l:List (List UInt8)} {i:Nat},s∈l->∃k,gN .s (.str s) (Pw l) i=some (some (k,.bool true))
 |x::l,i,h=>by
  by_cases h1:s=x
  · have h2:(s==x)=true:=by rw[Da];exact h1
    exact⟨i,by simp only[Pw,Bv,gN,sameKey,h2]⟩
  have h2:(s==x)=false:=by rw[Ce];exact h1
  obtain⟨k,hk⟩:=Qv (l:=l) (i:=i+1) ((Ap.1 h).resolve_left h1);exact⟨k,by simp only[Pw,Bv,gN,sameKey,h2];exact hk⟩
def W6:CW Tryz.f6:=⟨_,Mq⟩
theorem is6:Fi 6 W6:=cH Tryz.func6 W6
def W15:CW Tryz.f15:=⟨_,Mq⟩
theorem aWg:Fi 15 W15:=cH Tryz.func15 W15
def W18:CW Tryz.f18:=⟨_,cL⟩
theorem aWz:Fi 18 W18:=cH Tryz.func18 W18
def W8:CW Tryz.f8:=⟨_,Mq⟩
theorem is8:Fi 8 W8:=cH Tryz.func8 W8
def W10:CW Tryz.f10:=⟨_,cL⟩
theorem aUw:Fi 10 W10:=cH Tryz.func10 W10
def W33:CW Tryz.f33:=⟨_,cL⟩
theorem bAg:Fi 33 W33:=cH Tryz.func33 W33
def W34:CW Tryz.f34:=⟨_,cL⟩
theorem bAj:Fi 34 W34:=cH Tryz.func34 W34
def W55:CW Tryz.f55:=⟨_,cL⟩
theorem bAt:Fi 55 W55:=cH Tryz.func55 W55
def W13:CW Tryz.f13:=⟨_,cL⟩
theorem aVr:Fi 13 W13:=cH Tryz.func13 W13
def W29:CW Tryz.f29:=⟨_,cL⟩
theorem bFa:Fi 29 W29:=cH Tryz.func29 W29
def W7:CW Tryz.f7:=⟨_,Mq⟩
theorem is7:Fi 7 W7:=cH Tryz.func7 W7
def W19:CW Tryz.f19:=⟨_,cL⟩
theorem bEw:Fi 19 W19:=cH Tryz.func19 W19
def W9:CW Tryz.f9:=⟨_,Mq⟩
theorem is9:Fi 9 W9:=cH Tryz.func9 W9
def W11:CW Tryz.f11:=⟨_,cL⟩
theorem bEs:Fi 11 W11:=cH Tryz.func11 W11
def W14:CW Tryz.f14:=⟨_,cL⟩
theorem bEt:Fi 14 W14:=cH Tryz.func14 W14
def W4:CW Tryz.f4:=⟨_,cL⟩
theorem is4:Fi 4 W4:=cH Tryz.func4 W4
def W12:CW Tryz.f12:=⟨_,cL⟩
theorem aVi:Fi 12 W12:=cH Tryz.func12 W12
attribute [local congr] aV aO aP aL aX aR aQ aH aY
attribute [local irreducible] FC bY eX
def Ma (sz:Nat) (els:List (List AV)):AV:=if els=[] then .aS else .aU 0 sz els
theorem pL (sz:Nat) (els:List (List AV)):lO (Ma sz els) sz els:=by
 unfold Ma;split
 · rename_i h;exact .inl ⟨rfl,h⟩
 exact .inr rfl
theorem _root_.Go.Av.nB.shut {H:aA} {sz:Nat} {v:AV} {els:List (List AV)} (h:nB H sz v els) (hf:dM els=true) (nw:Nat):gK H none nw 0 v=some (Ma sz els):=by
 unfold Ma;split
 · rename_i he;rw[h.2 he];rfl
 rename_i cK;refine Has.shut (.inr h.1) cK (fun e=>?_) hf nw
 rcases h.1 with ⟨h1,h2⟩|⟨k,h1,_⟩
 · exact cK h2
 rw[h1] at e;cases e
def bE (l:List Bool):List (List AV):=l.map fun b=>[.bool b]
theorem iJ (l:List Bool):(bE l).length=l.length:=Ai _
theorem GV {l:List Bool} {i:Nat} (hi:i<l.length):(bE l).getD i []=[.bool l[i]]:=by simp[bE,hi]
theorem GU (l:List Bool):∀e∈bE l,bL e=true:=fun e he=>by obtain⟨w,_,rfl⟩:=Bf.1 he;rfl
theorem _root_.List.qV {α:Type} {l:List α} {i:Nat} (hi:i<l.length) {P:α->Prop} (h:∀x∈l.take i,P x) (h1:P l[i]):∀x∈l.take (i+1),P x:=fun x hx=>by
 rw[Al,An] at hx
 rcases hx with hx|hx
 · exact h x hx
 simp[hi] at hx;subst hx;exact h1
structure Sc where
 sv:AV
 pv:AV
 vv:AV
 wv:AV
 tv:AV
 av:AV
 st:List Bool
 ps:List (List Int)
 vs:List (List Int)
 ws:List (List Int)
 ta:List Bool
 ac:List Bool
structure Sc.OK (s:Sc):Prop where
 st:lO s.sv 1 (bE s.st)
 ps:lO s.pv 7 (cC s.ps)
 vs:lO s.vv 3 (cC s.vs)
 ws:lO s.wv 3 (cC s.ws)
 ta:lO s.tv 1 (bE s.ta)
 ac:lO s.av 1 (bE s.ac)
 p7:∀p∈s.ps,p.length=7/\yY p
 v3:∀w∈s.vs,w.length=3/\yY w
 w3:∀w∈s.ws,w.length=3/\yY w
 aU:s.st.length<2^30
 lps:s.ps.length<2^30
 lvs:s.vs.length<2^30
 lws:s.ws.length<2^30
 lta:s.ta.length<2^30
 lac:s.ac.length<2^30
def Sc.cs (s:Sc):List AV:=[s.sv,s.pv,s.vv,s.wv,s.tv,s.av]
theorem Sc.free {s:Sc} (h:s.OK):bL s.cs=true:=by simp only[Sc.cs,sf,h.st.free (GU _),h.ps.free (bU _),h.vs.free (bU _),h.ws.free (bU _),h.ta.free (GU _),h.ac.free (GU _)]
def zV:List Int:=[0,0,0]
theorem xS {w:List Int} (h:w.length=3):cJ [.i,.i,.i] (iC w) [.int .i64 0,.int .i64 0,.int .i64 0]=some (decide (w=zV)):=uW (n:=3) h (m:=zV) rfl
theorem zi {w:List Int} (h:w.length=3) (H:aA):Sg 33 [.agg (iC w)] H (.ret (.bool (!decide (w=zV)))) H:=by
 refine So bAg (by simp only[sf,jC]) ?_ H;unfold W33;dsimp only;have hl:(iC w).length=3:=by rw[cN,h]
 simp only[↓zP,zJ,seval,oL hl,xS h];refine Rx ?_;rfl
def LB (l:List (List Int)):Bool:=l.any fun w=> !decide (w=zV)
def VO:List (List Int)->Nat->Int
 |[],_=> -1
 |w::l,k=>if w=zV then VO l (k+1) else k
theorem VP:∀(l:List (List Int)) (k:Nat),decide (VO l k≥0)=LB l
 |[],_=>rfl
 |w::l,k=>by
  unfold VO;have h:=VP l (k+1);by_cases e:w=zV
  · rw[if_pos e,h];simp[LB,e]
  rw[if_neg e,Af (by omega)];simp[LB,e]
theorem kl {l:List (List Int)} {i:Nat} (hi:i<l.length):VO (l.drop i) i=if l[i]=zV then VO (l.drop (i+1)) (i+1) else i:=by rw[Ct hi];rfl
theorem aFd {v:AV} {l:List (List Int)} (hv:lO v 3 (cC l)) (h3:∀w∈l,w.length=3) (hl:l.length<2^63) (H:aA):
 Sg 55 [v,.func (.func 33) [] []] H (.ret (.int .i64 (VO l 0))) H:=by
 have xr:=hv.len;simp only[cX] at xr;rw[bG] at xr;refine So bAt (by simp only[bL,AV.free,hv.free (bU _)];rfl) ?_ H;unfold W55;dsimp only;refine bQ ?_;simp only[↓zP,zG,seval];refine bR ?_;refine aG fun K hK=>?_;refine bQ ?_;simp only[↓zP,zJ,seval,xr];refine bR ?_;refine bO [] (fun i vs H'=>H'=⟨0,.nil⟩/\VO l 0=VO (l.drop i) i) l.length (by omega) (by decide) ?_ ?_ ?_ ?_ ?_
 · simp only[zB,seval]
 · simp only[zB,seval]
 · exact⟨rfl,rfl⟩
 · rintro i f H1 hi hk e1 ⟨rfl,hx⟩;have f0:f 0=.aU 0 3 (cC l):=by rw[hk 0 rfl];simp only[zB,seval,fG,Dn];exact hv.aU (i:=i) (by rw[bG];exact hi)
   have f1:f 1=.func (.func 33) [] []:=(by rw[hk 1 rfl];rfl);have hg:=dY hi;have QJ:=h3 _ (Ac hi);have ah:=zi QJ;rw[kl hi] at hx;generalize l[i]=w at *;have Tx:(iC w).length=3:=(by rw[cN,QJ]);refine aF ?_;refine bQ ?_;simp only[↓zP,zG,seval,e1];refine bR ?_;refine aG fun K2 bK=>?_;simp only[↓zP,zG,seval,f0,f1,aB,bG,hi,hg,oL Tx];refine EB (args:=[.agg (iC w)]) (by decide) (by simp only[dV,zB,seval];rfl) (by simp only[sm,zB,seval];rfl) (ah _) ?_;by_cases hz:w=zV
   · have d1:=Af hz;rw[if_pos hz] at hx;simp only[↓zP,seval,zI,d1];apply bK;clear bK K2;simp only[↓zP,zG,seval];exact⟨trivial,hx⟩
   have d1:=Ae hz;rw[if_neg hz] at hx;simp only[↓zP,seval,zI,d1];apply bK;clear bK K2;simp only[↓zP,zG,seval];refine Rx ?_;rw[hx];rfl
 rintro f H1 hk ⟨rfl,hx⟩;rw[Gk] at hx;simp only[↓zP,seval];apply hK;clear hK K;simp only[↓zP,zG,seval];refine Rx ?_;rw[hx];rfl
theorem ZV {v:AV} {l:List (List Int)} (hv:lO v 3 (cC l)) (h3:∀w∈l,w.length=3) (hl:l.length<2^63) (H:aA):
 Sg 34 [v,.func (.func 33) [] []] H (.ret (.bool (LB l))) H:=by
 refine So bAj (by simp only[bL,AV.free,hv.free (bU _)];rfl) ?_ H;unfold W34;dsimp only;have h:=aFd hv h3 hl;have hm:=VP l 0;simp only[↓zP,zJ,seval];refine bW (h _) ?_;simp only[↓zP,zG,seval,hm];refine Rx ?_;rfl
def PB (s:Sc):Bool:= !LB s.vs&& !LB s.ws
theorem aHg {s:Sc} (hs:s.OK) (H:aA):Sg 10 [.agg s.cs] H (.ret (.bool (PB s))) H:=by
 refine So aUw (by simp only[bL,AV.free,Sc.free hs];rfl) ?_ H;unfold W10;dsimp only;have h1:=ZV hs.vs (fun w hw=>(hs.v3 w hw).1) (by have :=hs.lvs;omega);have h2:=ZV hs.ws (fun w hw=>(hs.w3 w hw).1) (by have :=hs.lws;omega);have hR:PB s=(!LB s.vs&& !LB s.ws):=rfl;generalize LB s.vs=b1 at *;generalize LB s.ws=b2 at *;simp only[↓zP,zJ,seval,Sc.cs];refine bW (h1 _) ?_;cases b1
 · simp only[↓zP,zJ,seval];refine bW (h2 _) ?_;simp only[↓zP,zG,seval];refine Rx ?_;rw[hR];rfl
 simp only[↓zP,zJ,seval];refine Rx ?_;rw[hR];rfl
theorem aBd {s:Sc} (hs:s.OK) (H:aA):Sg 11 [.agg s.cs] H (.ret (.bool (PB s))) H:=by
 refine So bEs (by simp only[bL,AV.free,Sc.free hs];rfl) ?_ H;unfold W11;dsimp only;have l1:=hs.vs.len;have l2:=hs.ws.len;simp only[cX] at l1 l2;rw[bG] at l1 l2;have b1:=hs.lvs;have b2:=hs.lws;have eM:∀{l:List (List Int)} {i:Nat} (hi:i<l.length),l[i]≠zV->LB l=true:=fun hi h=>Bu.2 ⟨_,Ac hi,by simp[h]⟩
 have yg:∀{l:List (List Int)},(∀w∈l,w=zV)->LB l=false:=fun h=>by unfold LB;rw[Ek];intro w hw;simp[h w hw]
 refine bQ ?_;simp only[↓zP,zJ,seval,Sc.cs];refine bR ?_;refine aG fun K hK=>?_;simp only[↓zP,zG,seval];refine bN [] (fun i vs H'=>H'.get 0=some (.cells [s.sv,s.pv,s.vv,s.wv,s.tv,s.av] false)/\∀w∈s.vs.take i,w=zV) 0 s.vs.length (Az _) (by omega) (by decide) ?_ ?_ ?_ ?_ ?_
 · simp only[zB,seval]
 · exact⟨by simp only[zI,seval],fun p hp=>by simp at hp⟩
 · rintro i f H1 h0 hi hk e1 ⟨g0,_⟩;have f1:f 1=.ref 0 0:=hk 1 rfl;simp only[↓zP,zJ,seval,e1,f1,g0,l1];exact tB (by omega)
 · rintro i f H1 h0 hi hk e1 ⟨g0,bM⟩;have f1:f 1=.ref 0 0:=hk 1 rfl;have II:s.vv=.aU 0 3 (cC s.vs):=hs.vs.aU (i:=i) (by rw[bG];exact hi);have hg:=dY hi;have QJ:=(hs.v3 _ (Ac hi)).1;have iE:=List.qV hi bM;have eM:=eM hi;generalize s.vs[i]=w at *;have Tx:(iC w).length=3:=by rw[cN,QJ]
   have hez:=xS QJ;refine aF ?_;refine aG fun K2 bK=>?_;by_cases hz:w=zV
   · have d1:=Af hz;rw[d1] at hez;simp only[↓zP,zJ,seval,e1,f1,g0,II,aB,bG,hi,hg,oL Tx,hez];apply bK;clear bK K2;simp only[↓zP,zJ,seval];exact⟨g0,iE hz⟩
   have d1:=Ae hz;rw[d1] at hez;simp only[↓zP,zJ,seval,e1,f1,g0,II,aB,bG,hi,hg,oL Tx,hez];apply bK;clear bK K2;simp only[↓zP,zJ,seval];refine Rx ?_;unfold PB;rw[eM hz];rfl
 rintro f H1 hk ⟨g0,bM⟩;rw[Ao] at bM;have f1:f 1=.ref 0 0:=hk 1 rfl;simp only[↓zP,seval];apply hK;clear hK K;refine aG fun K hK=>?_;simp only[↓zP,zG,seval];refine bN [] (fun i vs H'=>H'=H1/\∀w∈s.ws.take i,w=zV) 0 s.ws.length (Az _) (by omega) (by decide) ?_ ?_ ?_ ?_ ?_
 · simp only[zB,seval]
 · exact⟨rfl,fun p hp=>by simp at hp⟩
 · rintro i f2 H2 h0 hi dP e1 ⟨rfl,_⟩;have u1:f2 1=.ref 0 0:=by rw[dP 1 rfl];simp only[zB,seval];exact f1
   simp only[↓zP,zJ,seval,e1,u1,g0,l2];exact tB (by omega)
 · rintro i f2 H2 h0 hi dP e1 ⟨rfl,rE⟩;have u1:f2 1=.ref 0 0:=by rw[dP 1 rfl];simp only[zB,seval];exact f1
   have II:s.wv=.aU 0 3 (cC s.ws):=hs.ws.aU (i:=i) (by rw[bG];exact hi);have hg:=dY hi;have QJ:=(hs.w3 _ (Ac hi)).1;have iE:=List.qV hi rE;have eM:=eM hi;generalize s.ws[i]=w at *;have Tx:(iC w).length=3:=(by rw[cN,QJ]);have hez:=xS QJ;refine aF ?_;refine aG fun K2 bK=>?_;by_cases hz:w=zV
   · have d1:=Af hz;rw[d1] at hez;simp only[↓zP,zJ,seval,e1,u1,g0,II,aB,bG,hi,hg,oL Tx,hez];apply bK;clear bK K2;simp only[↓zP,zJ,seval];exact⟨trivial,iE hz⟩
   have d1:=Ae hz;rw[d1] at hez;simp only[↓zP,zJ,seval,e1,u1,g0,II,aB,bG,hi,hg,oL Tx,hez];apply bK;clear bK K2;simp only[↓zP,zJ,seval];refine Rx ?_;unfold PB;rw[eM hz,yg bM];rfl
 rintro f2 H2 dP ⟨rfl,rE⟩;rw[Ao] at rE;simp only[↓zP,seval];apply hK;clear hK K;simp only[↓zP,zG,seval];refine Rx ?_;unfold PB;rw[yg bM,yg rE];rfl
end Go.Proofs.YtndkpgceodimiaaGreatDoor
namespace Go.Proofs.YtndkpgceodimiaaGreatDoor
open Go Go.Av Go.aI
open Go.ChangeShapes Go.WideShapes Go.ChangeAt Go.RowKit
section
theorem UX {H:Type} (d:DataW H):1<=Rows.uptoBulk d:=by
 cases d with
 |lit l=>cases l<;>simp[Rows.uptoBulk]
 |_=>simp[Rows.uptoBulk]
theorem UU {H:Type}:∀l:List (DataW H),l.length<=Rows.uptoBulkAll l
 |[]=>Az _
 |d::l=>by have :=UX d;have :=UU l;simp only[Rows.uptoBulkAll,Aq];omega
theorem UW {H:Type} {d:DataW H}:∀{l:List (DataW H)},d∈l->Rows.uptoBulk d<=Rows.uptoBulkAll l
 |x::l,h=>by
  simp only[Rows.uptoBulkAll]
  rcases Ap.1 h with rfl|h
  · omega
  have :=UW h;omega
def IL:Value->Int
 |.int _ n=>n
 |_=>0
section
variable {H:Type} {enc:TypeId×Value->H} {W:World} {base:Nat} {hd:Bool}
theorem uB {α:Type} [Inhabited α] {t e:TypeId} {n m:Nat} {v:Value} {y:DataW H×List MemPlace} (mo:Bool) (ht:Tryz.prog.underlying t=some (.slice e)) (hn:Tryz.prog.cellsOf e=n) (h0:0<n) (f:α->List AV) (Q:α->Prop)
 (hq:∀r,Q r->(f r).length=n/\∀c∈f r,c.one=true)
 (hx:∀(cs:List Value) (m:Nat) (y:DataW H×List MemPlace),cs.length=n->DataW.trod enc Tryz.prog W base (fun _=>true) hd m e cs=some y->∃r,Q r/\∀j,j<n->VR (nI mo W) W ((f r).getD j aD) (cs.getD j undef))
 (h:DataW.trod enc Tryz.prog W base (fun _=>true) hd m t [v]=some y):
 ∃(av:AV) (l:List α),lO av n (l.map f)/\(∀r∈l,Q r)/\VR (nI mo W) W av v/\l.length+1<=Rows.uptoBulk y.1:=by
 rcases Go.Deep.open_slice ht h with ⟨h1,h2⟩|⟨a,len,cap,mm,k,D,Pl,hv,hb,hl,hm,hmm,rfl,hc⟩
 · obtain rfl:v=.slice none 0 0:=by simpa using h1
   exact⟨.aS,[],.inl ⟨rfl,rfl⟩,by simp,.aS,UX _⟩
 obtain rfl:v=.slice (some a) len cap:=by simpa using hv
 have hmc:mm=cap:=by simpa using hmm
 subst hmc
 obtain⟨g,hg⟩:=Go.Deep.choose_lt (α:=α×List Value) (n:=len) (p:=fun i r=>Q r.1/\r.2.length=n/\(∀j,j<n->W.cell? (a.add (i*n+j))=some (r.2.getD j undef))/\∀j,j<n->VR (nI mo W) W ((f r.1).getD j aD) (r.2.getD j undef)) (fun i hi=>by
  obtain⟨cs,h1,h2⟩:=hc i (by omega);rw[hn] at h1;obtain⟨_,hlen,kF⟩:=World.cells?_some h1;obtain⟨r,hr,hvr⟩:=hx cs _ _ hlen h2;refine⟨(r,cs),hr,hlen,fun j hj=>?_,hvr⟩;rw[<-Go.Deep.add_add,kF j hj,List.getD,Ab (by omega)]
  rfl)
 have wx:((List.range len).map fun i=>(g i).1).length+1<=Rows.uptoBulk (DataW.slice ((List.range len).map D) ((List.range (mm -len)).map fun j=>D (len+j))):=by have :=UU ((List.range len).map D);simp only[Rows.uptoBulk,Ai,Bp] at this ⊢;omega
 obtain⟨b,o,s⟩:=a
 cases s with
 |some s=>
  have Xw:mm=0:=by
   rcases Hr mm with h|h
   · exact h
   obtain⟨cs,h1,_⟩:=hc 0 h;rw[hn] at h1;obtain⟨_,hlen,kF⟩:=World.cells?_some h1;have :=kF 0 h0;rw[Ab (by omega)] at this;have :=ou this;simp[Addr.add] at this
  subst Xw;obtain rfl:len=0:=by omega
  exact⟨.aU 0 n [],[],.inr rfl,by simp,.vP 0 n b o s (by decide),wx⟩
 |none=>
  refine⟨.aU 0 n (((List.range len).map fun i=>(g i).1).map f),(List.range len).map fun i=>(g i).1,.inr rfl,fun r hr=>?_,?_,wx⟩
  · obtain⟨i,hi,rfl⟩:=Bf.1 hr;exact(hg i (Ba.1 hi)).1
  have hu:∀e∈((List.range len).map fun i=>(g i).1).map f,e.length=n:=fun e he=>by simp only[En,Bf,Ba] at he;obtain⟨i,hi,rfl⟩:=he;exact(hq _ (hg i hi).1).1
  have Sw:(((List.range len).map fun i=>(g i).1).map f).length=len:=by simp
  have vN:(((List.range len).map fun i=>(g i).1).map f).flatten.length=len*n:=by
   have :∀(L:List (List AV)),(∀e∈L,e.length=n)->L.flatten.length=L.length*n:=by
    intro L
    induction L with
    |nil=>intro _;simp
    |cons x L ih=>intro hL;rw[Bx,Au,hL x Ax,ih fun e he=>hL e (Ay _ he),Aq,Cn,Gp,Fq]
   rw[this _ hu,Sw]
  have at_:∀j,j<len*n->j / n<len/\j%n<n/\j / n*n+j%n=j/\(((List.range len).map fun i=>(g i).1).map f).flatten.getD j aD=(f (g (j / n)).1).getD (j%n) aD:=fun j hj=>by have h1:j / n<len:=Nat.div_lt_of_lt_mul (by rwa [Dk]);have h2:j%n<n:=Dg _ h0;have h3:j / n*n+j%n=j:=(by rw[Dk];exact Fj j n);refine⟨h1,h2,h3,?_⟩;have :=xT hu (i:=j / n) (j:=j%n) (by rw[Sw];exact h1) h2;rw[h3] at this;rw[this];simp[List.getD,h1]
  have :=VR.aU (G:=nI mo W) (w:=W) 0 n (((List.range len).map fun i=>(g i).1).map f) b o mm (fun j=>(g (j / n)).2.getD (j%n) undef) hu
   (fun j hj=>by
     rw[vN] at hj;obtain⟨h1,h2,h3,h4⟩:=at_ j hj;obtain⟨q1,q2,q3,q4⟩:=hg _ h1;have kF:=q3 _ h2;rw[h3,th] at kF;refine⟨⟨_,kF⟩,kF,?_⟩;rw[h4];have qj:=(hq _ q1).1;refine(hq _ q1).2 _ ?_;rw[List.getD,Ab (by omega)]
     exact Ac _)
   (fun j hj=>by
     rw[vN] at hj;obtain⟨h1,h2,h3,h4⟩:=at_ j hj;rw[h4]
     exact(hg _ h1).2.2.2 _ h2)
   ⟨by rw[Sw];exact hl,trivial⟩
  rw[Sw] at this;exact this
theorem oJ {G:Gh} {cs:List Value} {i:Nat} (h:∃n,cs[i]?=some (.int .i64 n)/\(Lit.int .i64 n).wf=true):VR G W (.int .i64 (IL (cs.getD i undef))) (cs.getD i undef):=by obtain⟨n,hn,_⟩:=h;rw[List.getD,hn];exact .int _ _
theorem aRo {cs:List Value} {i:Nat} (h:∃n,cs[i]?=some (.int .i64 n)/\(Lit.int .i64 n).wf=true): -2^63<=IL (cs.getD i undef)/\IL (cs.getD i undef)<2^63:=by obtain⟨n,hn,hw⟩:=h;rw[List.getD,hn];simp[Lit.wf,IntKind.min,IntKind.max,IntKind.signed,IntKind.bits] at hw;simp only[Bi,IL];omega
def ivL (cs:List Value) (o n:Nat):List Int:=(List.range n).map fun j=>IL (cs.getD (o+j) undef)
theorem TK (cs:List Value) (o n:Nat):(ivL cs o n).length=n:=by simp[ivL]
theorem yp {cs:List Value} {o n j:Nat} (hj:j<n):(iC (ivL cs o n)).getD j aD=.int .i64 (IL (cs.getD (o+j) undef)):=by rw[gT (by rw[TK];exact hj)];simp[ivL,hj]
theorem bg {cs:List Value} {o n:Nat} (h:∀j,j<n->∃r,cs[o+j]?=some (.int .i64 r)/\(Lit.int .i64 r).wf=true):yY (ivL cs o n):=fun x hx=>by obtain⟨j,hj,rfl⟩:=Bf.1 hx;exact aRo (h j (Ba.1 hj))
theorem tF {t e:TypeId} {n m:Nat} {v:Value} {y:DataW H×List MemPlace} (mo:Bool) (ht:Tryz.prog.underlying t=some (.slice e)) (hf:Uu Tryz.prog 8 e=some (List.replicate n 3)) (hn:Tryz.prog.cellsOf e=n) (h0:0<n)
 (h:DataW.trod enc Tryz.prog W base (fun _=>true) hd m t [v]=some y):
 ∃(av:AV) (l:List (List Int)),lO av n (cC l)/\(∀r∈l,r.length=n/\yY r)/\VR (nI mo W) W av v/\l.length+1<=Rows.uptoBulk y.1:=
 uB mo ht hn h0 iC (fun r=>r.length=n/\yY r) (fun r hr=>⟨by rw[cN];exact hr.1,fun c hc=>by obtain⟨x,_,rfl⟩:=Bf.1 hc;rfl⟩)
  (fun cs m y hl hy=>by
    have R:=oR 8 hf hy
    have hi:∀j,j<n->∃r,cs[0+j]?=some (.int .i64 r)/\(Lit.int .i64 r).wf=true:=fun j hj=>by rw[Cv];exact fC R (u:=3) (by simp[hj]) Tryz.underlying3
    refine⟨ivL cs 0 n,⟨TK _ _ _,bg hi⟩,fun j hj=>?_⟩;rw[yp hj,Cv];have :=hi j hj;rw[Cv] at this
    exact oJ this) h
theorem FI {m:Nat} {v:Value} {y:DataW H×List MemPlace} (mo:Bool) (h:DataW.trod enc Tryz.prog W base (fun _=>true) hd m 31 [v]=some y):
 ∃(av:AV) (l:List Bool),lO av 1 (bE l)/\VR (nI mo W) W av v/\l.length+1<=Rows.uptoBulk y.1:=by
 obtain⟨av,l,h1,_,h2,h3⟩:=uB (α:=Bool) mo Tryz.underlying31 (n:=1) (by kernel_rfl) (by decide) (fun b=>[.bool b]) (fun _=>True) (fun r _=>⟨rfl,fun c hc=>by rw[Bn] at hc;subst hc;rfl⟩)
  (fun cs m y hl hy=>by
    obtain⟨b,rfl,_⟩:=DataW.trod_bool Tryz.underlying4 hy;refine⟨b,trivial,fun j hj=>?_⟩;obtain rfl:j=0:=by omega
    exact .bool b) h
 exact⟨av,l,h1,h2,h3⟩
theorem YV {v:Value} {m:Nat} {y:DataW H×List MemPlace} (mo:Bool) (h:DataW.trod enc Tryz.prog W base (fun _=>true) hd m 32 [v]=some y):∃p:AV×List aI.V,tJ p/\VR (nI mo W) W p.1 v:=by
 obtain⟨av,l,h1,_,h2,_⟩:=uB (α:=aI.V) mo Tryz.underlying32 (n:=3) (by kernel_rfl) (by decide) cG (fun _=>True) (fun r _=>⟨rfl,fun c hc=>by
  simp only[cG,Ap,Br,Dq] at hc
  rcases hc with rfl|rfl|rfl<;>rfl⟩)
  (fun cs m y hl hy=>by
    have R:=oR 8 (ts:=[3,3,3]) (by kernel_rfl) hy;refine⟨⟨IL (cs.getD 0 undef),IL (cs.getD 1 undef),IL (cs.getD 2 undef)⟩,trivial,fun j hj=>?_⟩
    exact match j,hj with
    |0,_=>oJ (fC R (i:=0) (u:=3) rfl Tryz.underlying3)
    |1,_=>oJ (fC R (i:=1) (u:=3) rfl Tryz.underlying3)
    |2,_=>oJ (fC R (i:=2) (u:=3) rfl Tryz.underlying3)
    |n+3,h=>absurd h (by omega)) h
 refine⟨(av,l),?_,h2⟩
 rcases h1 with ⟨e1,e2⟩|e
 · exact .inl ⟨e1,by simpa using e2⟩
 exact .inr e
theorem YU {v:Value} {m:Nat} {y:DataW H×List MemPlace} (mo:Bool) (h:DataW.trod enc Tryz.prog W base (fun _=>true) hd m 48 [v]=some y):
 ∃(pv:AV) (ps:List (AV×List aI.V)),KK pv ps/\(∀p∈ps,tJ p)/\VR (nI mo W) W pv v:=by
 obtain⟨av,l,h1,h4,h2,_⟩:=uB (α:=AV×List aI.V) mo Tryz.underlying48 (n:=1) (by kernel_rfl) (by decide) (fun p=>[p.1]) tJ (fun r hr=>⟨rfl,fun c hc=>by
  rw[Bn] at hc;subst hc
  rcases hr with ⟨hr,_⟩|hr<;>rw[hr]<;>rfl⟩)
  (fun cs m y hl hy=>by
    obtain⟨u,mu,yu,hu,hyu⟩:=(oR 8 (ts:=[32]) (by kernel_rfl) hy) 0 32 rfl;obtain⟨p,hp,hvp⟩:=YV mo hyu;refine⟨p,hp,fun j hj=>?_⟩;obtain rfl:j=0:=by omega
    rw[Bw (l:=cs),hu]
    exact hvp) h
 refine⟨av,l,?_,h4,h2⟩
 rcases h1 with ⟨e1,e2⟩|e
 · exact .inl ⟨e1,by simpa using e2⟩
 exact .inr e
instance:Inhabited Th:=⟨⟨0,[],.aS,[],0,0,0,0,[]⟩⟩
theorem Vm {v:Value} {m:Nat} {y:DataW H×List MemPlace} (mo:Bool) (h:DataW.trod enc Tryz.prog W base (fun _=>true) hd m 23 [v]=some y):
 ∃(tv:AV) (ts:List Th),lO tv 14 (uH ts)/\(∀t∈ts,t.OK)/\VR (nI mo W) W tv v:=by
 obtain⟨av,l,h1,h4,h2,_⟩:=uB (α:=Th) mo Tryz.underlying23 (n:=14) (by kernel_rfl) (by decide) Th.cs Th.OK (fun r hr=>⟨Th.len hr,fun c hc=>by
  simp only[Th.cs,kR,Fc,Dw,Ap] at hc
  rcases hc with rfl|rfl|rfl|rfl|rfl|rfl|rfl|hc<;>first|rfl|skip
  · rcases hr.parts with ⟨hr,_⟩|hr<;>rw[hr]<;>rfl
  obtain⟨x,_,rfl⟩:=Bf.1 hc
  rfl⟩)
  (fun cs m y hl hy=>by
    have R:=oR 8 (ts:=[3,9,48,3,3,3,3,3,3,3,3,3,3,3]) (by kernel_rfl) hy;obtain⟨z,hz,CC⟩:=Ym R (i:=1) (u:=9) rfl Tryz.underlying9;obtain⟨u,mu,yu,hu,hyu⟩:=R 2 48 rfl;obtain⟨pv,ps,Ks,GC,hvp⟩:=YU mo hyu
    have hi:∀j,j<7->∃r,cs[7+j]?=some (.int .i64 r)/\(Lit.int .i64 r).wf=true:=fun j hj=>by
     refine fC R (i:=7+j) (u:=3) ?_ Tryz.underlying3
     exact match j,hj with
     |0,_=>rfl
     |1,_=>rfl
     |2,_=>rfl
     |3,_=>rfl
     |4,_=>rfl
     |5,_=>rfl
     |6,_=>rfl
     |n+7,h=>absurd h (by omega)
    refine⟨⟨IL (cs.getD 0 undef),z.data.toList,pv,ps,IL (cs.getD 3 undef),IL (cs.getD 4 undef),IL (cs.getD 5 undef),IL (cs.getD 6 undef),ivL cs 7 7⟩,⟨?_,Ks,GC,TK _ _ _,bg hi⟩,fun j hj=>?_⟩
    · have :z.data.toList.length=z.size:=Cx;have h63:maxLen=2^63 -1:=rfl;show z.data.toList.length<2^63;omega
    exact match j,hj with
    |0,_=>oJ (fC R (i:=0) (u:=3) rfl Tryz.underlying3)
    |1,_=>by have :cs.getD 1 undef=.string z:=(by rw[List.getD,hz];rfl);rw[this];exact .str z
    |2,_=>by have :cs.getD 2 undef=u:=(by rw[List.getD,hu];rfl);rw[this];exact hvp
    |3,_=>oJ (fC R (i:=3) (u:=3) rfl Tryz.underlying3)
    |4,_=>oJ (fC R (i:=4) (u:=3) rfl Tryz.underlying3)
    |5,_=>oJ (fC R (i:=5) (u:=3) rfl Tryz.underlying3)
    |6,_=>oJ (fC R (i:=6) (u:=3) rfl Tryz.underlying3)
    |n+7,h=>by
     have e:(Th.cs ⟨IL (cs.getD 0 undef),z.data.toList,pv,ps,IL (cs.getD 3 undef),IL (cs.getD 4 undef),IL (cs.getD 5 undef),IL (cs.getD 6 undef),ivL cs 7 7⟩).getD (n+7) aD=(iC (ivL cs 7 7)).getD n aD:=rfl;rw[e,yp (by omega),Fq 7 n];have :=hi n (by omega);rw[Fq] at this
     exact oJ this) h
 exact⟨av,l,h1,h4,h2⟩
end
end
end Go.Proofs.YtndkpgceodimiaaGreatDoor
namespace Go.Proofs.YtndkpgceodimiaaGreatDoor
open Go Go.Av
attribute [local congr] aV aO aP aL aX aR aQ aH aY
attribute [local irreducible] FC bY eX
theorem pz {g r0 r1:Int} {ts:List Th} {rs ps:List (List Int)} {tv rv pv:AV} (sH:lO tv 14 (uH ts)) (uY:lO rv 8 (cC rs)) (Ks:lO pv 10 (cC ps)) (ht:∀t∈ts,t.OK)
 (hf:ts.length<=64->∀t∈ts,t.Few) (hr:∀r∈rs,r.length=8) (hp:∀p∈ps,p.length=10) (H:aA):
 Sg 6 [.agg (yC g r0 r1 tv rv pv)] H (.ret (.int .i64 (tN g r0 r1 ts rs ps))) H:=by
 refine So is6 (by simp only[yC,sf,sH.free (kE ht),uY.free (bU _),Ks.free (bU _)]) ?_ H;unfold W6;dsimp only;have lt:=sH.len;have lr:=uY.len;have lp:=Ks.len;simp only[cX] at lt lr lp;rw[dE] at lt;rw[bG] at lr lp;refine bQ ?_;simp only[↓zP,zJ,seval,yC];refine fM ?_;simp only[↓zP,zJ,seval,lt];refine fM ?_;have hY1:vA ts.length rs.length ps.length=true->tN g r0 r1 ts rs ps=2:=fun h=>by unfold tN;rw[if_pos h]
 have QB:vA ts.length rs.length ps.length=false->XL g r0 r1=true->tN g r0 r1 ts rs ps=1:=fun h h2=>by unfold tN;rw[if_neg (by rw[h];decide),if_pos h2]
 have HY:vA ts.length rs.length ps.length=false->XL g r0 r1=false->tN g r0 r1 ts rs ps=if FX [] ts≠0 then FX [] ts
  else if rs.any (KS ts.length) then 1 else if ps.any (KR ts.length) then 1 else 0:=fun h h2=>by unfold tN;rw[if_neg (by rw[h];decide),if_neg (by rw[h2];decide)]
 have Xy:vA ts.length rs.length ps.length=false->ts.length<=64/\rs.length<=16/\ps.length<=16:=fun h=>by simp only[vA,Eg,Bk] at h;omega
 unfold vA at hY1 QB HY Xy;unfold XL at QB HY;generalize dR:decide ((ts.length:Int)>64)=b1 at *;generalize fH:decide ((rs.length:Int)>16)=b2 at *;generalize tS:decide ((ps.length:Int)>16)=b3 at *;cases b1<;>cases b2<;>cases b3;rotate_left
 iterate 7 (simp only[↓zP,zJ,seval,lr,lp,dR,fH,tS];refine Rx ?_;rw[hY1 rfl];rfl)
 obtain⟨n64,m64,p64⟩:=Xy rfl;have QB:=QB rfl;have HY:=HY rfl;have hf:=hf n64;clear hY1 Xy;simp only[↓zP,zJ,seval,lr,lp,dR,fH,tS];refine fM ?_;generalize uK:decide (g<0)=b4 at *;generalize CB:decide (g>1048576)=b5 at *;generalize Nt:decide (r0<0)=b6 at *;generalize wo:decide (r0>r1)=b7 at *;generalize hb8:decide (r1>4000)=b8 at *;cases b4;rotate_left
 · simp only[↓zP,zJ,seval,uK];refine Rx ?_;rw[QB rfl];rfl
 cases b5;rotate_left
 · simp only[↓zP,zJ,seval,uK,CB];refine Rx ?_;rw[QB rfl];rfl
 cases b6;rotate_left
 · simp only[↓zP,zJ,seval,nC,uK,CB,Nt];refine Rx ?_;rw[QB rfl];rfl
 cases b7;rotate_left
 · simp only[↓zP,zJ,seval,nC,uK,CB,Nt,wo];refine Rx ?_;rw[QB rfl];rfl
 cases b8;rotate_left
 · simp only[↓zP,zJ,seval,nC,uK,CB,Nt,wo,hb8];refine Rx ?_;rw[QB rfl];rfl
 have HY:=HY rfl;clear QB;simp only[↓zP,zJ,seval,nC,uK,CB,Nt,wo,hb8];refine bR ?_;clear dR fH tS uK CB Nt wo hb8;refine bQ ?_;simp only[↓zP,zJ,seval];refine bR ?_;refine aG fun K hK=>?_;refine bQ ?_;simp only[↓zP,zJ,seval,lt];refine bR ?_;generalize hX:((aA.mk 0 .nil).alloc _).alloc _=HA;have g0:HA.get 0=some (.cells [.int .i64 g,.int .i64 r0,.int .i64 r1,tv,rv,pv] false):=by subst hX;simp only[zI,seval]
 have g1:HA.get 1=some (.map []):=by subst hX;simp only[zI,seval]
 have gn:2<=HA.next:=by subst hX;simp only[zI,seval]
 clear hX;refine dT fun f jL=>?_;have f1:f 1=.ref 0 0:=by subst jL;simp only[zB,seval]
 have f3:f 3=.int .i64 ts.length:=by subst jL;simp only[zB,seval]
 have f4:f 4=.map 1:=by subst jL;simp only[zB,seval]
 have f62:f 62=tv:=by subst jL;simp only[zB,seval]
 have f63:f 63=.int .i64 ts.length:=by subst jL;simp only[zB,seval]
 have f64:f 64=.int .i64 0:=by subst jL;simp only[zB,seval]
 clear jL;refine bO [] (fun i vs H'=>H'.get 0=some (.cells [.int .i64 g,.int .i64 r0,.int .i64 r1,tv,rv,pv] false)/\H'.get 1=some (.map (Pw ((ts.take i).map (·.name))))/\2<=H'.next/\FX [] ts=FX ((ts.take i).map (·.name)) (ts.drop i)) ts.length (by omega) (by decide) ?_ ?_ ?_ ?_ ?_
 · exact f64
 · exact f63
 · exact⟨g0,g1,gn,rfl⟩
 · rintro i f' H1 hi hk e1 ⟨m0,m1,mn,MQ⟩;have pG:=ht _ (Ac hi);have Xs:=hf _ (Ac hi);have f'1:f' 1=.ref 0 0:=(hk 1 rfl).trans f1;have f'4:f' 4=.map 1:=(hk 4 rfl).trans f4;have bCk:f' 62=.aU 0 14 (uH ts):=(hk 62 rfl).trans (f62.trans (sH.aU (i:=i) (by rw[dE];exact hi)));rw[SA hi] at MQ;have nM:(ts.take (i+1)).map (·.name)=(ts.take i).map (·.name)++[ts[i].name]:=by rw[Al,Ab hi,Cf];rfl
   have hg:=oQ hi;rw[nM];have JY:=Th.len pG;generalize ts[i]=t at *;generalize (ts.take i).map (·.name)=seen at *;refine aF ?_;refine bQ ?_;simp only[↓zP,zJ,seval,e1,bCk,aB,dE,hi,hg,oL JY];refine bR ?_;generalize hX:((H1.alloc _).set H1.next _)=HB;have y0:HB.get 0=some (.cells [.int .i64 g,.int .i64 r0,.int .i64 r1,tv,rv,pv] false):=(by subst hX;rw[aA.aC,if_neg (by omega),aA.aJ,if_neg (by omega)];exact m0);have y1:HB.get 1=some (.map (Pw seen)):=(by subst hX;rw[aA.aC,if_neg (by omega),aA.aJ,if_neg (by omega)];exact m1);have y6:HB.get H1.next=some (.cells t.cs false):=(by subst hX;rw[aA.aC,if_pos rfl]);have yn:H1.next<HB.next:=(by subst hX;simp only[aA.aW,aA.aZ];omega);clear hX m0 m1;generalize H1.next=r6 at *;have k0:t.cs.getD 0 aD=.int .i64 t.kind:=rfl;have k1:t.cs.getD 1 aD=.str t.name:=rfl;have k2:t.cs.getD 2 aD=t.pv:=rfl;have k6:(t.cs.drop 1).take 6=kR t.name t.pv t.m0 t.m1 t.r0 t.r1:=rfl
   have k7:(t.cs.drop 7).take 7=iC t.store:=by have :t.cs.drop 7=iC t.store:=rfl;rw[this,Ar (by rw[cN,pG.store];decide)]
   refine dT fun f jL=>?_;have f1:f 1=.ref 0 0:=(by subst jL;simp only[zB,seval];exact f'1);have f4:f 4=.map 1:=(by subst jL;simp only[zB,seval];exact f'4);have f6:f 6=.ref r6 0:=(by subst jL;simp only[zB,seval]);clear jL
   have EX:∀{x:Int},QU t=x->x≠0->tN g r0 r1 ts rs ps=x:=fun h h0=>by rw[h,if_pos h0] at MQ;rw[HY,MQ,if_pos h0]
   have OC:((decide (t.kind=1)||decide (t.kind=2))=false\/iO t.store≠0)->QU t=1:=fun h=>by unfold QU;rw[if_pos h]
   have hp:=Ox pG.store pG.i64;refine aG fun K2 bK=>?_;by_cases hkd:t.kind=1\/t.kind=2;rotate_left
   · have d1:(t.kind != 1)=true:=(by rw[Dc];omega);have d2:(t.kind != 2)=true:=(by rw[Dc];omega);simp only[↓zP,zJ,seval,f6,y6,JY,k0,d1,d2];refine Rx ?_;rw[EX (OC (.inl (by simp;omega))) (by decide)];rfl
   have key:∀f:dD,f 1=.ref 0 0->f 4=.map 1->f 6=.ref r6 0->iO t.store=0->K2 f [] HB:=by
    intro f f1 f4 f6 Tz;apply bK;clear bK K2;have hck:=rq pG.name pG.parts pG.part Xs.2 Xs.1 t.m0 t.m1 t.r0 t.r1;have Nt:(kR t.name t.pv t.m0 t.m1 t.r0 t.r1).length=6:=rfl
    have aQz:¬((decide (t.kind=1)||decide (t.kind=2))=false\/iO t.store≠0):=by
     rintro(h|h)
     · simp at h;omega
     exact h Tz
    have Nw:QU t=if lT t.name (t.ps.map (·.2)) t.m0 t.m1 t.r0 t.r1≠0 then lT t.name (t.ps.map (·.2)) t.m0 t.m1 t.r0 t.r1 else if t.ps.all (fun p=>YD p.2) then 0 else 1:=by unfold QU;rw[if_neg aQz]
    generalize lT t.name (t.ps.map (·.2)) t.m0 t.m1 t.r0 t.r1=cb at *;refine bQ ?_;refine bQ ?_;simp only[↓zP,zJ,seval,f6,y6,JY,k6];refine bW (hck _) ?_;simp only[↓zP,zG,seval];refine bR ?_;by_cases VF:cb=0;rotate_left
    · have d3:(cb != 0)=true:=(by rw[Dc];exact VF);simp only[↓zP,zG,seval,d3];refine Rx ?_;rw[EX (x:=cb) (by rw[Nw,if_pos VF]) VF];rfl
    have d3:(cb != 0)=false:=(by rw[VF];rfl);rw[if_neg (fun h=>h VF)] at Nw;simp only[↓zP,zG,seval,d3];refine bR ?_
    have hpr:lO t.pv 1 (sI t.ps):=by
     rcases pG.parts with ⟨h1,h2⟩|h
     · exact .inl ⟨h1,by rw[h2];rfl⟩
     exact .inr h
    have kr:=hpr.len;simp only[cX] at kr;have DJ:(sI t.ps).length=t.ps.length:=Ai _;rw[DJ] at kr;refine aG fun K2 bK=>?_;refine bQ ?_;simp only[↓zP,zJ,seval,f6,y6,JY,k2,kr];refine bR ?_;refine bO [] (fun j vs H'=>H'.get 0=some (.cells [.int .i64 g,.int .i64 r0,.int .i64 r1,tv,rv,pv] false)/\H'.get 1=some (.map (Pw seen))/\H'.get r6=some (.cells t.cs false)/\r6<H'.next/\∀p∈t.ps.take j,YD p.2=true) t.ps.length (by have :=Xs.1;omega) (by decide) ?_ ?_ ?_ ?_ ?_
    · simp only[zB,seval]
    · simp only[zB,seval]
    · exact⟨y0,y1,y6,yn,fun p hp=>by simp at hp⟩
    · rintro j f2 H2 hj dP e2 ⟨z0,z1,z6,zn,bM⟩;have u90:f2 90=.aU 0 1 (sI t.ps):=(by rw[dP 90 rfl];simp only[zB,seval];exact hpr.aU (i:=j) (by rw[DJ];exact hj));have xj:(sI t.ps).getD j []=[t.ps[j].1]:=(by simp[sI,hj]);have QF:=pG.part _ (Ac hj);have hlj:=Xs.2 _ (Ac hj)
      have iE:YD t.ps[j].2=true->∀p∈t.ps.take (j+1),YD p.2=true:=fun h p hp=>by
       rw[Al,An] at hp
       rcases hp with hp|hp
       · exact bM p hp
       simp[hj] at hp;subst hp;exact h
      have eM:YD t.ps[j].2=false->QU t=1:=fun h=>by rw[Nw,if_neg];rw[Aw];intro hh;rw[hh _ (Ac hj)] at h;cases h
      generalize t.ps[j]=q at *;refine aF ?_;refine bQ ?_;simp only[↓zP,zJ,seval,e2,u90,aB,DJ,hj,xj];refine bR ?_;generalize hX:(H2.alloc _).set H2.next _=H3;have w0:H3.get 0=some (.cells [.int .i64 g,.int .i64 r0,.int .i64 r1,tv,rv,pv] false):=(by subst hX;rw[aA.aC,if_neg (by omega),aA.aJ,if_neg (by omega)];exact z0);have w1:H3.get 1=some (.map (Pw seen)):=(by subst hX;rw[aA.aC,if_neg (by omega),aA.aJ,if_neg (by omega)];exact z1);have w6:H3.get r6=some (.cells t.cs false):=(by subst hX;rw[aA.aC,if_neg (by omega),aA.aJ,if_neg (by omega)];exact z6);have w9:H3.get H2.next=some (.cells [q.1] false):=(by subst hX;rw[aA.aC,if_pos rfl]);have wn:r6<H3.next:=(by subst hX;simp only[aA.aW,aA.aZ];omega);clear hX z0 z1 z6
      have hS:=BN (m:=4096) (by decide) (v:=q.1) (L:=q.2.map vL) (by
       intro w hw;obtain⟨v,_,rfl⟩:=Bf.1 hw
       rfl) (by rw[Ai];omega) (by
       rcases QF with ⟨h1,h2⟩|h
       · exact .inl ⟨h1,by rw[h2];rfl⟩
       exact .inr ⟨0,rfl,by rw[h,aRt]⟩)
      have hI:(q.2.map vL).all (wR 4096)=YD q.2:=rfl;rw[hI] at hS;refine aG fun K3 FZ=>?_;simp only[↓zP,zJ,seval,w9];refine bW (hS _) ?_
      cases hb:YD q.2 with
      |true=>simp only[↓zP,zJ,seval];apply FZ;clear FZ K3;simp only[↓zP,zG,seval];exact⟨w0,w1,w6,wn,iE hb⟩
      |false=>simp only[↓zP,zJ,seval];apply FZ;clear FZ K3;simp only[↓zP,zG,seval];refine Rx ?_;rw[EX (x:=1) (eM hb) (by decide)];rfl
    rintro f2 H2 dP ⟨z0,z1,z6,zn,bM⟩;rw[Ao] at bM;rw[if_pos (Aw.2 bM)] at Nw;rw[if_neg (fun h=>h Nw)] at MQ;have u4:f2 4=.map 1:=(by rw[dP 4 rfl];simp only[zB,seval];exact f4);have u6:f2 6=.ref r6 0:=(by rw[dP 6 rfl];simp only[zB,seval];exact f6);simp only[↓zP,seval];apply bK;clear bK K2;refine aG fun K2 bK=>?_;by_cases gG:t.name∈seen
    · obtain⟨k,hk⟩:=Qv (i:=0) gG;rw[if_pos gG] at MQ;simp only[↓zP,zJ,seval,u4,u6,z1,z6,JY,k1,DM,hk];refine Rx ?_;rw[HY,MQ];rfl
    have hk:=Up (i:=0) gG;rw[if_neg gG] at MQ;simp only[↓zP,zJ,seval,u4,u6,z1,z6,JY,k1,DM,hk];apply bK;clear bK K2;simp only[↓zP,zJ,seval,u4,u6,z1,z6,JY,k1,DM,hk];exact⟨z0,by simp[Pw],by omega,MQ⟩
   have ke:(t.kind=1/\(t.kind != 1)=false/\True)\/((t.kind != 1)=true/\(t.kind != 2)=false/\True):=by
    rcases hkd with h|h
    · exact .inl ⟨h,by rw[h];rfl,trivial⟩
    exact .inr ⟨by rw[h];rfl,by rw[h];rfl,trivial⟩
   rcases ke with ⟨_,d1,d2⟩|⟨d1,d2,_⟩<;>
   · simp only[↓zP,zJ,seval,f6,y6,JY,k0,d1,d2];simp only[seval,k7];refine bW (hp _) ?_;by_cases Tz:iO t.store=0
     · have d3:(iO t.store != 0)=false:=(by rw[Tz];rfl);simp only[↓zP,zG,seval,d3];exact key _ (by simp only[zB,seval];exact f1) (by simp only[zB,seval];exact f4) (by simp only[zB,seval];exact f6) Tz
     have d3:(iO t.store != 0)=true:=(by rw[Dc];exact Tz);simp only[↓zP,zG,seval,d3];refine Rx ?_;rw[EX (OC (.inr Tz)) (by decide)];rfl
 rintro f' H1 hk ⟨m0,m1,mn,MQ⟩;simp only[↓zP,seval];apply hK;clear hK K;rw[Gk] at MQ;have aRl:FX [] ts=0:=MQ;rw[if_neg (fun h=>h aRl)] at HY;have f'1:f' 1=.ref 0 0:=(hk 1 rfl).trans f1;have f'3:f' 3=.int .i64 ts.length:=(hk 3 rfl).trans f3;clear hk m1 MQ;generalize (ts.length:Int)=n at *;refine aG fun K hK=>?_;refine bQ ?_;simp only[↓zP,zJ,seval,f'1,m0,lr];refine bR ?_;refine bO [] (fun i vs H'=>H'.get 0=some (.cells [.int .i64 g,.int .i64 r0,.int .i64 r1,tv,rv,pv] false)/\2<=H'.next/\∀r∈rs.take i,KS n r=false) rs.length (by omega) (by decide) ?_ ?_ ?_ ?_ ?_
 · simp only[zB,seval]
 · simp only[zB,seval]
 · exact⟨m0,mn,fun p hp=>by simp at hp⟩
 · rintro i f2 H2 hi hk e1 ⟨m0,mn,bM⟩;have bHn:f2 112=.aU 0 8 (cC rs):=by rw[hk 112 rfl];simp only[zB,seval];exact uY.aU (i:=i) (by rw[bG];exact hi)
   have u3:f2 3=.int .i64 n:=(by rw[hk 3 rfl];simp only[zB,seval];exact f'3);have hg:=dY hi;have h8:=hr _ (Ac hi)
   have iE:KS n rs[i]=false->∀p∈rs.take (i+1),KS n p=false:=fun h p hp=>by
    rw[Al,An] at hp
    rcases hp with hp|hp
    · exact bM p hp
    simp[hi] at hp;subst hp;exact h
   have eM:KS n rs[i]=true->tN g r0 r1 ts rs ps=1:=fun h=>by rw[HY,if_pos (Bu.2 ⟨_,Ac hi,h⟩)]
   generalize rs[i]=r at *;have uL:(iC r).length=8:=(by rw[cN,h8]);refine aF ?_;refine bQ ?_;simp only[↓zP,zJ,seval,e1,bHn,aB,bG,hi,hg,oL uL];refine bR ?_;generalize hX:(H2.alloc _).set H2.next _=H3;have w0:H3.get 0=some (.cells [.int .i64 g,.int .i64 r0,.int .i64 r1,tv,rv,pv] false):=(by subst hX;rw[aA.aC,if_neg (by omega),aA.aJ,if_neg (by omega)];exact m0);have vG:H3.get H2.next=some (.cells (iC r) false):=(by subst hX;rw[aA.aC,if_pos rfl]);have wn:2<=H3.next:=(by subst hX;simp only[aA.aW,aA.aZ];omega);clear hX;generalize H2.next=r11 at *;have a0:=gT (l:=r) (i:=0) (by omega);have a1:=gT (l:=r) (i:=1) (by omega);have a2:((iC r).drop 2).take 3=iC ((r.drop 2).take 3):=(by rw[kU,mM]);have a5:((iC r).drop 5).take 3=iC ((r.drop 5).take 3):=(by rw[kU,mM]);have w2:=BN (m:=kB (r.getD 0 0)) (by unfold kB;split<;>decide) (L:=[(r.drop 2).take 3]) (by intro w hw;rw[Bn] at hw;subst hw;simp;omega) (by simp) (.inr ⟨1,rfl,rfl⟩);have w5:=BN (m:=kB (r.getD 1 0)) (by unfold kB;split<;>decide) (L:=[(r.drop 5).take 3]) (by intro w hw;rw[Bn] at hw;subst hw;simp;omega) (by simp) (.inr ⟨1,rfl,rfl⟩);have c2:=Vv (r.getD 0 0);have c5:=Vv (r.getD 1 0);simp only[Bv,Fg,Ho,List.all_nil,Fs] at w2 w5;have l3a:(iC ((r.drop 2).take 3)).length=3:=(by rw[cN];simp;omega);have l3b:(iC ((r.drop 5).take 3)).length=3:=(by rw[cN];simp;omega);unfold KS at iE eM;generalize (r.drop 2).take 3=wa at *;generalize (r.drop 5).take 3=wb at *;generalize r.getD 0 0=x at *;generalize r.getD 1 0=y at *;generalize dR:decide (x<0)=b1 at *;generalize fH:decide (x>n)=b2 at *;generalize tS:decide (y<0)=b3 at *;generalize uK:decide (y>n)=b4 at *;generalize CB:(x==y)=b5 at *;generalize Nt:wR (kB x) wa=b6 at *;generalize wo:wR (kB y) wb=b7 at *;refine aG fun K2 bK=>?_;refine Dz ?_;cases b1;rotate_left
   · simp only[↓zP,zJ,seval,zD,vG,uL,a0,dR];apply bK;clear bK K2;simp only[↓zP,zG,seval];refine Rx ?_;rw[eM rfl];rfl
   cases b2;rotate_left
   · simp only[↓zP,zJ,seval,zD,u3,vG,uL,a0,dR,fH];apply bK;clear bK K2;simp only[↓zP,zG,seval];refine Rx ?_;rw[eM rfl];rfl
   cases b3;rotate_left
   · simp only[↓zP,zJ,seval,zD,u3,vG,uL,a0,a1,dR,fH,tS];apply bK;clear bK K2;simp only[↓zP,zG,seval];refine Rx ?_;rw[eM rfl];rfl
   cases b4;rotate_left
   · simp only[↓zP,zJ,seval,zD,u3,vG,uL,a0,a1,dR,fH,tS,uK];apply bK;clear bK K2;simp only[↓zP,zG,seval];refine Rx ?_;rw[eM rfl];rfl
   cases b5;rotate_left
   · simp only[↓zP,zJ,seval,zD,u3,vG,uL,a0,a1,dR,fH,tS,uK,CB];apply bK;clear bK K2;simp only[↓zP,zG,seval];refine Rx ?_;rw[eM rfl];rfl
   cases b6
   · simp only[↓zP,zJ,seval,zD,u3,vG,uL,a0,a1,dR,fH,tS,uK,CB];refine eE (c2 _) ?_;simp only[↓zP,zJ,seval,zD,vG,uL,a2,oL l3a];refine eE (w2 _) ?_;simp only[↓zP,zJ,seval,zD];apply bK;clear bK K2;simp only[↓zP,zG,seval];refine Rx ?_;rw[eM rfl];rfl
   cases b7
   · simp only[↓zP,zJ,seval,zD,u3,vG,uL,a0,a1,dR,fH,tS,uK,CB];refine eE (c2 _) ?_;simp only[↓zP,zJ,seval,zD,vG,uL,a2,oL l3a];refine eE (w2 _) ?_;simp only[↓zP,zJ,seval,zD,vG,uL,a1];refine eE (c5 _) ?_;simp only[↓zP,zJ,seval,zD,vG,uL,a5,oL l3b];refine eE (w5 _) ?_;simp only[↓zP,zJ,seval,zD];apply bK;clear bK K2;simp only[↓zP,zG,seval];refine Rx ?_;rw[eM rfl];rfl
   simp only[↓zP,zJ,seval,zD,u3,vG,uL,a0,a1,dR,fH,tS,uK,CB];refine eE (c2 _) ?_;simp only[↓zP,zJ,seval,zD,vG,uL,a2,oL l3a];refine eE (w2 _) ?_;simp only[↓zP,zJ,seval,zD,vG,uL,a1];refine eE (c5 _) ?_;simp only[↓zP,zJ,seval,zD,vG,uL,a5,oL l3b];refine eE (w5 _) ?_;simp only[↓zP,zJ,seval,zD];apply bK;clear bK K2;simp only[↓zP,zG,seval];exact⟨w0,wn,iE rfl⟩
 rintro f2 H2 hk ⟨m0,mn,bM⟩;simp only[↓zP,seval];apply hK;clear hK K;rw[Ao] at bM
 rw[if_neg (by
  rw[Bu];rintro⟨r,hr,h⟩;rw[bM r hr] at h
  cases h)] at HY
 have u1:f2 1=.ref 0 0:=by rw[hk 1 rfl];simp only[zB,seval];exact f'1
 have u3:f2 3=.int .i64 n:=by rw[hk 3 rfl];simp only[zB,seval];exact f'3
 clear hk bM;refine aG fun K hK=>?_;refine bQ ?_;simp only[↓zP,zJ,seval,u1,m0,lp];refine bR ?_;refine bO [] (fun i vs H'=>2<=H'.next/\∀r∈ps.take i,KR n r=false) ps.length (by omega) (by decide) ?_ ?_ ?_ ?_ ?_
 · simp only[zB,seval]
 · simp only[zB,seval]
 · exact⟨mn,fun p hp=>by simp at hp⟩
 · rintro i f2 H2 hi hk e1 ⟨mn,bM⟩;have bHo:f2 167=.aU 0 10 (cC ps):=by rw[hk 167 rfl];simp only[zB,seval];exact Ks.aU (i:=i) (by rw[bG];exact hi)
   have u3:f2 3=.int .i64 n:=(by rw[hk 3 rfl];simp only[zB,seval];exact u3);have hg:=dY hi;have h8:=hp _ (Ac hi)
   have iE:KR n ps[i]=false->∀p∈ps.take (i+1),KR n p=false:=fun h p hp=>by
    rw[Al,An] at hp
    rcases hp with hp|hp
    · exact bM p hp
    simp[hi] at hp;subst hp;exact h
   have eM:KR n ps[i]=true->tN g r0 r1 ts rs ps=1:=fun h=>by rw[HY,if_pos (Bu.2 ⟨_,Ac hi,h⟩)]
   generalize ps[i]=r at *;have uL:(iC r).length=10:=(by rw[cN,h8]);refine aF ?_;refine bQ ?_;simp only[↓zP,zJ,seval,e1,bHo,aB,bG,hi,hg,oL uL];refine bR ?_;generalize hX:(H2.alloc _).set H2.next _=H3;have vG:H3.get H2.next=some (.cells (iC r) false):=(by subst hX;rw[aA.aC,if_pos rfl]);have wlt:H2.next<H3.next:=(by subst hX;simp only[aA.aW,aA.aZ];omega);clear hX;generalize H2.next=r11 at *;have a0:=gT (l:=r) (i:=0) (by omega);have a2:((iC r).drop 1).take 3=iC ((r.drop 1).take 3):=(by rw[kU,mM]);have w2:=BN (m:=4096) (by decide) (L:=[(r.drop 1).take 3]) (by intro w hw;rw[Bn] at hw;subst hw;simp;omega) (by simp) (.inr ⟨1,rfl,rfl⟩)
   obtain⟨H4,hO,w5⟩:=pq (m:=1099511627776) (by decide) (v:=.sl r11 3 4 2 2) (L:=[(r.drop 4).take 3,(r.drop 7).take 3]) (by
    intro w hw;simp only[Ap,Br,Dq] at hw
    rcases hw with rfl|rfl<;>simp <;>omega) (by simp) (H:=H3) (.inr (.inr ⟨r11,4,false,iC r,rfl,wlt,vG,fun i h=>by
     match i,h with
     |0,_=>exact⟨by omega,by rw[kU,mM];rfl⟩
     |1,_=>exact⟨by omega,by rw[kU,mM];rfl⟩⟩))
   simp only[Bv,Fg,Ho,List.all_nil,Fs] at w2 w5;have l3a:(iC ((r.drop 1).take 3)).length=3:=(by rw[cN];simp;omega);have IF:=Tk vG (n:=2) (sz:=3) (off:=4) (by decide) (by omega);unfold KR at iE eM;generalize (r.drop 1).take 3=wa at *;generalize (r.drop 4).take 3=wb at *;generalize (r.drop 7).take 3=wc at *;generalize r.getD 0 0=x at *;generalize dR:decide (x<1)=b1 at *;generalize fH:decide (x>n)=b2 at *;generalize tS:wR 4096 wa=b3 at *;generalize wR 1099511627776 wb=b4 at *;generalize wR 1099511627776 wc=b5 at *;refine aG fun K2 bK=>?_;cases b1;rotate_left
   · simp only[↓zP,zJ,seval,vG,uL,a0,dR];apply bK;clear bK K2;simp only[↓zP,zG,seval];refine Rx ?_;rw[eM rfl];rfl
   cases b2;rotate_left
   · simp only[↓zP,zJ,seval,u3,vG,uL,a0,dR,fH];apply bK;clear bK K2;simp only[↓zP,zG,seval];refine Rx ?_;rw[eM rfl];rfl
   cases b3
   · simp only[↓zP,zJ,seval,u3,vG,uL,a0,a2,oL l3a,dR,fH];refine bW (w2 _) ?_;simp only[↓zP,zJ,seval];apply bK;clear bK K2;simp only[↓zP,zG,seval];refine Rx ?_;rw[eM rfl];rfl
   simp only[↓zP,zJ,seval,u3,vG,uL,a0,a2,oL l3a,dR,fH];refine bW (w2 _) ?_;simp only[↓zP,zJ,seval,dQ,IF];refine bW (w5) ?_
   cases hbb:(b4&&b5) with
   |true=>simp only[↓zP,zJ,seval];apply bK;clear bK K2;simp only[↓zP,zG,seval];exact⟨by have :=hO.le;omega,iE (by cases b4<;>cases b5<;>first|rfl|cases hbb)⟩
   |false=>simp only[↓zP,zJ,seval];apply bK;clear bK K2;simp only[↓zP,zG,seval];refine Rx ?_;rw[eM (by cases b4<;>cases b5<;>first|rfl|cases hbb)];rfl
 rintro f2 H2 hk ⟨mn,bM⟩;rw[Ao] at bM
 rw[if_neg (by
  rw[Bu];rintro⟨r,hr,h⟩;rw[bM r hr] at h
  cases h)] at HY
 simp only[↓zP,seval];apply hK;clear hK K;simp only[↓zP,zG,seval];refine Rx ?_;rw[HY];rfl
end Go.Proofs.YtndkpgceodimiaaGreatDoor
