/-
  Part of the proof of statement 12
-/
import Derived.Test.YtgggiembljfnhaaGreatDoorB06
import Derived.Test.YtgggiembljfnhaaGreatDoorB05
import Derived.Test.YtgggiembljfnhaaGreatDoorB03
import Derived.Below
import Derived.Lib.Join
import Derived.ProofKit
import Derived.OpenShut
import Derived.Deep.Slices
import Derived.Test.YtgggiembljfnhaaGreatDoorProg
import Derived.KernelRfl
import Derived.Test.YtgggiembljfnhaaGreatDoorRows
import Derived.LaidMore
import Derived.LaidLaws
import Derived.MakeChecks
import Derived.Lay
import Derived.ChangeMaps5
import Derived.Deep.DeepHandedRow
set_option linter.unusedVariables false
set_option linter.unusedSimpArgs false
set_option linter.unusedSectionVars false
set_option linter.defProp false
set_option maxRecDepth 100000
set_option maxHeartbeats 16000000
namespace Go.Av
open Go
attribute [local congr] aI
section
section
variable {P:Program} {g:bG} {n:Nat}
def aEy (n c ix a b:Nat) (cs:List Nat) (ts B:cF):Bool:=
 Nat.blt c n&&Nat.blt ix n&&Nat.blt a n&&Nat.blt b n&& !Nat.beq a ix&& !Nat.beq b ix&& !Nat.beq b a&& !sO ix ts.wr&& !sO ix B.wr&&B.rF&& !sO a cs&& !sO b cs&& !sO ix cs&&cs.all (fun t=> !sO t ts.wr)
def Qj (ix a b:Nat) (ts B:cF):List Nat:=a::b::ix::(ts.wr++B.wr)
theorem ZC {id c ix a b:Nat} {op:BinOp} {dz:Int} {ts B:cF} {f:dE} {ds:List gN} {H:aA} {Q:FQ} (cs:List Nat) (J:Nat->List AV->aA->Prop) (val:Nat->Int) (N:Nat)
 (hs:aEy n c ix a b cs ts B=true) (fK:∀i,i<N->pY op .i64 (val i) .i64 dz=some (.int .i64 (val (i+1))))
 (h1:f ix=.int .i64 (val 0)) (h0:J 0 (cs.map f) H)
 (test:∀(i:Nat) (f':dE) (H':aA),i<=N->jW (Qj ix a b ts B) f f'->f' ix=.int .i64 (val i)->J i (cs.map f') H'->FC P g n ts f' ds H' (iX (fun Qe tq GK=>tq=ds/\GK=H'/\Qe c=.bool (decide (i<N))) fun _ _ _ _=>False))
 (body:∀(i:Nat) (f':dE) (H':aA),i<N->jW (Qj ix a b ts B) f f'->f' ix=.int .i64 (val i)->J i (cs.map f') H'->FC P g n B f' ds H' (iX (fun Qe _ GK=>J (i+1) (cs.map Qe) GK) (dP id Q)))
 (done:∀(f':dE) (H':aA),jW (Qj ix a b ts B) f f'->J N (cs.map f') H'->Q .normal f' ds H'):
 FC P g n (.block id (.loop (.seq (.seq ts (.cond (.tmp c) .skip (.exit id))) (.seq B
  (.ops [⟨some a,.TC (.tmp ix),none⟩,⟨some b,.bin op (.tmp a) (.const (.int .i64 dz)),none⟩,⟨some ix,.TC (.tmp b),none⟩]))))) f ds H Q:=by
 simp only[aEy,Al,Cn,Gq,Aw] at hs;obtain⟨⟨⟨⟨⟨⟨⟨⟨⟨⟨⟨⟨⟨s1,s2⟩,s3⟩,s4⟩,s5⟩,s6⟩,s7⟩,t1⟩,b1⟩,b2⟩,c1⟩,c2⟩,c3⟩,c4⟩:=hs;have ne:∀{a b:Nat},Nat.beq a b=false->a≠b:=fun h e=>by subst e;simp at h
 have bIw:∀d∈ts.wr,d∈Qj ix a b ts B:=fun d hd=>by simp[Qj,hd]
 have bIv:∀d∈B.wr,d∈Qj ix a b ts B:=fun d hd=>by simp[Qj,hd]
 have kpU:∀{f':dE} {d:Nat} {v:AV},d∈Qj ix a b ts B->jW (Qj ix a b ts B) f f'->jW (Qj ix a b ts B) f (kH f' d v):=fun {f' d v} hd hk t ht=>by have cQ:t≠d:=fun e=>rD.1 ht (by rw[e];exact hd);rw[oM _ _ cQ];exact hk t ht
 refine aLc (id:=id) (c:=c) (fun i f' H'=>jW (Qj ix a b ts B) f f'/\f' ix=.int .i64 (val i)/\J i (cs.map f') H') N ⟨.mh,h1,h0⟩ ?_ ?_ ?_
 . rintro i f' H' hi ⟨hk,e1,hj⟩ K hK Q';refine jS (fun e f2 Te H2 hh=>?_) (GG (test i f' H' hi hk e1 hj));obtain⟨k1,k2,k3⟩:=hh
   cases e with
   |normal=>obtain⟨rfl,rfl,k4⟩:=k3;refine⟨rfl,rfl,hK _ k4 ⟨hk.trans (k1.sub bIw),by rw[k1 _ t1];exact e1,?_⟩⟩;have :cs.map f2=cs.map f':=Fl fun t ht=>k1 t (by simpa using c4 t ht);rw[this];exact hj
   |_=>exact k3.elim
 . rintro i f' H' hi ⟨hk,e1,hj⟩;refine jS (fun e f2 Te H2 hh=>?_) (GG (body i f' H' hi hk e1 hj));obtain⟨k1,k2,k3⟩:=hh
   cases e with
   |normal=>obtain rfl:=k2 b2;refine⟨rfl,?_⟩;have e2:f2 ix=.int .i64 (val i):=(by rw[k1 _ b1];exact e1);have eP:=hk.trans (k1.sub bIv);rw[JM,GI _ _ s3];simp only[dA,dS,e2,cE];rw[yY _ _ _ _ s4];simp only[dA,dS,vZ,rJ,fK i hi,Bu,cE];rw[GI _ _ s2];simp only[dA,dS,cE,vR,gE,rJ];refine⟨trivial,kpU (by simp[Qj]) (kpU (by simp[Qj]) (kpU (by simp[Qj]) eP)),trivial,?_⟩;rw[IE c3,IE c2,IE c1];exact k3
   |_=>exact k3
 rintro f' H' ⟨hk,e1,hj⟩;exact done f' H' hk hj
theorem bP {id c ix a b:Nat} {ts B:cF} {f:dE} {ds:List gN} {H:aA} {Q:FQ} (cs:List Nat) (J:Nat->List AV->aA->Prop) (s N:Nat) (hsN:s<=N) (hN:N<2^63)
 (hs:aEy n c ix a b cs ts B=true) (h1:f ix=.int .i64 s) (h0:J s (cs.map f) H)
 (test:∀(i:Nat) (f':dE) (H':aA),s<=i->i<=N->jW (Qj ix a b ts B) f f'->f' ix=.int .i64 i->J i (cs.map f') H'->FC P g n ts f' ds H' (iX (fun Qe tq GK=>tq=ds/\GK=H'/\Qe c=.bool (decide (i<N))) fun _ _ _ _=>False))
 (body:∀(i:Nat) (f':dE) (H':aA),s<=i->i<N->jW (Qj ix a b ts B) f f'->f' ix=.int .i64 i->J i (cs.map f') H'->FC P g n B f' ds H' (iX (fun Qe _ GK=>J (i+1) (cs.map Qe) GK) (dP id Q)))
 (done:∀(f':dE) (H':aA),jW (Qj ix a b ts B) f f'->J N (cs.map f') H'->Q .normal f' ds H'):
 FC P g n (.block id (.loop (.seq (.seq ts (.cond (.tmp c) .skip (.exit id))) (.seq B
  (.ops [⟨some a,.TC (.tmp ix),none⟩,⟨some b,.bin .add (.tmp a) (.const (.int .i64 1)),none⟩,⟨some ix,.TC (.tmp b),none⟩]))))) f ds H Q:=by
 refine ZC cs (fun i=>J (s+i)) (fun i=>((s+i:Nat):Int)) (N -s) hs (fun i hi=>?_) (by simpa using h1) (by simpa using h0) (fun i f' H' hi hk e1 hj=>?_) (fun i f' H' hi hk e1 hj=>?_) (fun f' H' hk hj=>?_)
 . simp only[pY,if_true];rw[wrap_i64 (by omega) (by omega)];simp only[Ae,AV.int.injEq,Ka];omega
 . have h:=test (s+i) f' H' (by omega) (by omega) hk e1 hj
   rwa [show decide (s+i<N)=decide (i<N -s) from by rw[Bs];omega] at h
 . have h:=body (s+i) f' H' (by omega) (by omega) hk e1 hj
   rwa [Br] at h
 have :s+(N -s)=N:=by omega
 simp only[this] at hj;exact done f' H' hk hj
theorem ZB {id c ix a b:Nat} {ts B:cF} {f:dE} {ds:List gN} {H:aA} {Q:FQ} (cs:List Nat) (J:Nat->List AV->aA->Prop) (N:Nat) (hN:N<2^63)
 (hs:aEy n c ix a b cs ts B=true) (h1:f ix=.int .i64 ((N:Int) -1)) (h0:J N (cs.map f) H)
 (test:∀(i:Nat) (f':dE) (H':aA),i<=N->jW (Qj ix a b ts B) f f'->f' ix=.int .i64 ((i:Int) -1)->J i (cs.map f') H'->FC P g n ts f' ds H' (iX (fun Qe tq GK=>tq=ds/\GK=H'/\Qe c=.bool (decide (0<i))) fun _ _ _ _=>False))
 (body:∀(i:Nat) (f':dE) (H':aA),i<N->jW (Qj ix a b ts B) f f'->f' ix=.int .i64 i->J (i+1) (cs.map f') H'->FC P g n B f' ds H' (iX (fun Qe _ GK=>J i (cs.map Qe) GK) (dP id Q)))
 (done:∀(f':dE) (H':aA),jW (Qj ix a b ts B) f f'->J 0 (cs.map f') H'->Q .normal f' ds H'):
 FC P g n (.block id (.loop (.seq (.seq ts (.cond (.tmp c) .skip (.exit id))) (.seq B
  (.ops [⟨some a,.TC (.tmp ix),none⟩,⟨some b,.bin .sub (.tmp a) (.const (.int .i64 1)),none⟩,⟨some ix,.TC (.tmp b),none⟩]))))) f ds H Q:=by
 refine ZC cs (fun i=>J (N -i)) (fun i=>((N -i:Nat):Int) -1) N hs (fun i hi=>?_) (by simpa using h1) (by simpa using h0) (fun i f' H' hi hk e1 hj=>?_) (fun i f' H' hi hk e1 hj=>?_) (fun f' H' hk hj=>?_)
 . simp only[pY,if_true];rw[wrap_i64 (by omega) (by omega)];simp only[Ae,AV.int.injEq,Ka];omega
 . have h:=test (N -i) f' H' (by omega) hk e1 hj
   rwa [show decide (0<N -i)=decide (i<N) from by rw[Bs];omega] at h
 . have e:N -i=(N -(i+1))+1:=by omega
   have e1':f' ix=.int .i64 ((N -(i+1):Nat):Int):=(by rw[e1];congr 1;omega);have FA:J ((N -(i+1))+1) (cs.map f') H':=(by rw[<-e];exact hj);exact body (N -(i+1)) f' H' (by omega) hk e1' FA
 simp only[Nat.sub_self] at hj;exact done f' H' hk hj
end
end
theorem JD {k:IntKind} (hs:k.signed=false) (x:Int):k.wrap x=x%2^k.bits:=by simp[IntKind.wrap,hs]
end Go.Av
namespace Go.aP
section
variable {p:Nat->V} {N:Nat} {n:V} {d:Int}
instance:DecidableEq V:=fun a b=>match a,b with
 |⟨x,y,z⟩,⟨x',y',z'⟩=>if h:x=x'/\y=y'/\z=z' then .isTrue (by obtain⟨rfl,rfl,rfl⟩:=h;rfl) else .isFalse (fun e=>h (by cases e;exact⟨rfl,rfl,rfl⟩))
def fC (p:Nat->V) (i j k:Nat):V×Int:=(gL (bC (vec p i j) (vec p i k)),dot (gL (bC (vec p i j) (vec p i k))) (p i))
def jB (p:Nat->V) (i j k:Nat):List (V×Int):=
 if(fC p i j k).1=V0 then [] else [fC p i j k,(neg (fC p i j k).1,-(fC p i j k).2)]
theorem RT:gL V0=V0:=by simp[gL,V0]
theorem xS {i j k:Nat} (hi:i<N) (hj:j<N) (hk:k<N) {q:V×Int} (h:q∈jB p i j k) (le:∀k,k<N->dot q.1 (p k)<=q.2) (lt:∃k,k<N/\dot q.1 (p k)<q.2):pS p N q.1 q.2:=by
 unfold jB at h;split at h
 . cases h
 rename_i hz;have hc:bC (vec p i j) (vec p i k)≠V0:=fun e=>hz (by rw[fC,e,RT]);simp only[Am,Bj,Df] at h
 rcases h with rfl|rfl
 . exact vP.isF (a:=i) (b:=j) (c:=k) ⟨hc,.inl rfl⟩ hi hj hk le lt rfl
 refine vP.isF (a:=i) (b:=j) (c:=k) ⟨hc,.inr rfl⟩ hi hj hk le lt ?_;simp only[fC];rw[pG]
theorem gC (F:pS p N n d):∃i j k,k<j/\j<i/\i<N/\(n,d)∈jB p i j k:=by
 obtain⟨i,j,k,h1,h2,h3,hc,hd⟩:=F.down;refine⟨i,j,k,h1,h2,h3,?_⟩;have hz:¬(fC p i j k).1=V0:=b9 hc.1;unfold jB;rw[if_neg hz]
 rcases hc.2 with e|e
 . rw[hd,e];exact Ar
 refine Au _ (Am.2 (.inl ?_));rw[hd,e];simp only[fC];rw[pG]
def rN (i j k a b c:Nat):Prop:=a<i\/(a=i/\(b<j\/(b=j/\c<k)))
def rZ (p:Nat->V) (N:Nat) (i j k:Nat) (K:List (V×Int)):Prop:=
 ∀a b c,c<b->b<a->a<N->rN i j k a b c->∀q∈jB p a b c,pS p N q.1 q.2->q∈K
theorem rZ.zero:rZ p N 0 0 0 []:=fun a b c _ _ _ h=>by unfold rN at h;omega
theorem rZ.down {i j:Nat} {K:List (V×Int)} (h:rZ p N i j j K):rZ p N i (j+1) 0 K:=fun a b c h1 h2 h3 hb q hq F=>h a b c h1 h2 h3 Za2 q hq F
theorem rZ.next {i:Nat} {K:List (V×Int)} (h:rZ p N i i 0 K):rZ p N (i+1) 0 0 K:=fun a b c h1 h2 h3 hb q hq F=>h a b c h1 h2 h3 Za2 q hq F
theorem rZ.step {i j k:Nat} {K K':List (V×Int)} (h:rZ p N i j k K) (hs:∀q∈K,q∈K') (hn:∀q∈jB p i j k,pS p N q.1 q.2->q∈K'):rZ p N i j (k+1) K':=fun a b c h1 h2 h3 hb q hq F=>by
 by_cases e:a=i/\b=j/\c=k
 . obtain⟨rfl,rfl,rfl⟩:=e;exact hn q hq F
 exact hs q (h a b c h1 h2 h3 Za2 q hq F)
theorem rZ.all {K:List (V×Int)} (h:rZ p N N 0 0 K) (hK:∀q∈K,pS p N q.1 q.2) (q:V×Int):q∈K↔pS p N q.1 q.2:=by refine⟨hK q,fun F=>?_⟩;obtain⟨i,j,k,h1,h2,h3,hc⟩:=gC F;exact h i j k h1 h2 h3 (.inl h3) q hc F
theorem Og (P:V×Int->Prop):∀L:List (V×Int),∃K:List (V×Int),K.Nodup/\∀q,q∈K↔q∈L/\P q
 |[]=>⟨[],Kd,fun q=>by simp⟩
 |x::L=>by
  obtain⟨K,h1,h2⟩:=Og P L;by_cases hx:P x/\x∉K
  . refine⟨x::K,Jt.2 ⟨hx.2,h1⟩,fun q=>?_⟩;simp only[Am,h2];constructor
    . rintro(rfl|⟨h3,h4⟩)
      . exact⟨.inl rfl,hx.1⟩
      exact⟨.inr h3,h4⟩
    rintro⟨rfl|h3,h4⟩
    . exact .inl rfl
    exact .inr ⟨h3,h4⟩
  refine⟨K,h1,fun q=>?_⟩;rw[h2];simp only[Am];constructor
  . rintro⟨h3,h4⟩;exact⟨.inr h3,h4⟩
  rintro⟨rfl|h3,h4⟩
  . exact(h2 q).1 (Cr fun hc=>hx ⟨h4,hc⟩)
  exact⟨h3,h4⟩
theorem vC {α:Type} (R:α->α->Prop) (tr:∀{a b c},R a b->R b c->R a c) (tot:∀a b,R a b\/R b a):∀l:List α,∃s:List α,s.Perm l/\s.Pairwise R
 |[]=>⟨[],List.Perm.refl _,List.Pairwise.nil⟩
 |x::l=>by
  obtain⟨s,h1,h2⟩:=vC R tr tot l
  have ins:∀s:List α,s.Pairwise R->∃t:List α,t.Perm (x::s)/\t.Pairwise R:=by
   intro s
   induction s with
   |nil=>exact fun _=>⟨[x],List.Perm.refl _,by simp⟩
   |cons y s ih=>
    intro hs;rw[Cl] at hs
    rcases tot x y with h|h
    . refine⟨x::y::s,List.Perm.refl _,Cl.2 ⟨fun z hz=>?_,Cl.2 hs⟩⟩
      rcases Am.1 hz with rfl|hz
      . exact h
      exact tr h (hs.1 z hz)
    obtain⟨t,t1,t2⟩:=ih hs.2;refine⟨y::t,(List.Perm.cons y t1).trans (List.Perm.swap x y s),Cl.2 ⟨fun z hz=>?_,t2⟩⟩
    rcases Am.1 (t1.mem_iff.1 hz) with rfl|hz
    . exact h
    exact hs.1 z hz
  obtain⟨t,t1,t2⟩:=ins s h2;exact⟨t,t1.trans (List.Perm.cons x h1),t2⟩
theorem pB.exists (p:Nat->V) (N:Nat):∃S,pB p N S:=by
 obtain⟨K,h1,h2⟩:=Og (fun q=>pS p N q.1 q.2) ((List.range N).flatMap fun i=>(List.range N).flatMap fun j=>(List.range N).flatMap fun k=>jB p i j k)
 have hK:∀q,q∈K↔pS p N q.1 q.2:=fun q=>by rw[h2];refine⟨fun h=>h.2,fun F=>⟨?_,F⟩⟩;obtain⟨i,j,k,a1,a2,a3,hc⟩:=gC F;simp only[Fp,Ay];exact⟨i,a3,j,by omega,k,by omega,hc⟩
 obtain⟨S,s1,s2⟩:=vC (fun a b:V×Int=>¬iY b.1 a.1) (fun {a b c} h h'=>by unfold iY at *;omega) (fun a b=>by unfold iY;omega) K;exact⟨S,pB.bm h1 hK s1 s2⟩
theorem tU {α:Type}:∀(l on:List α),l.Nodup->(∀x∈l,x∈on)->l.length<=on.length
 |[],_,_,_=>Az _
 |x::l,on,hn,h=>by
  obtain⟨s,t,rfl⟩:=List.append_of_mem (h x Ar);rw[Jt] at hn
  have :=tU l (s++t) hn.2 fun y hy=>by
   have h1:=h y (Au _ hy);simp only[Ao,Am] at h1 ⊢
   rcases h1 with h1|rfl|h1
   . exact .inl h1
   . exact absurd hy hn.1
   exact .inr h1
  simp only[Ba,As] at this ⊢;omega
theorem tL {α β:Type} (f:α->List β) (m:Nat) (hf:∀x,(f x).length<=m):∀l:List α,(l.flatMap f).length<=l.length*m
 |[]=>by simp
 |x::l=>by have h1:=tL f m hf l;have h2:=hf x;simp only[Fe,Ba,As,Cs,Hv];omega
theorem BQ {K:List (V×Int)} (hn:K.Nodup) (hK:∀q∈K,pS p N q.1 q.2):K.length<=N*(N*(N*2)):=by
 have h1:=tU K ((List.range N).flatMap fun i=>(List.range N).flatMap fun j=>(List.range N).flatMap fun k=>jB p i j k) hn fun q hq=>by obtain⟨i,j,k,a1,a2,a3,hc⟩:=gC (hK q hq);simp only[Fp,Ay];exact⟨i,a3,j,by omega,k,by omega,hc⟩
 have c:∀i j k,(jB p i j k).length<=2:=fun i j k=>by unfold jB;split<;>simp
 have h2:=tL (fun i=>(List.range N).flatMap fun j=>(List.range N).flatMap fun k=>jB p i j k) (N*(N*2)) (fun i=>by
  have :=tL (fun j=>(List.range N).flatMap fun k=>jB p i j k) (N*2) (fun j=>by
   have :=tL (fun k=>jB p i j k) 2 (fun k=>c i j k) (List.range N)
   rwa [Bw] at this) (List.range N)
  rwa [Bw] at this) (List.range N)
 rw[Bw] at h2;omega
theorem YJ {js:List Nat} {n:Nat} (hn:js.Nodup) (hl:∀j∈js,j<n) (bU:∀j,j<n->j∈js):js.Perm (List.range n):=
 (List.perm_ext_iff_of_nodup hn List.nodup_range).2 fun a=>by rw[Ay];exact⟨hl a,bU a⟩
theorem ON {α:Type} (l:List α) (d:α):(List.range l.length).map (fun j=>l.getD j d)=l:=by refine Fs (by simp) fun k h1 h2=>?_;simp[List.getD,h2]
end
end Go.aP
namespace Go.uE
def cS:List Nat->Nat
 |[]=>0
 |d::l=>d+65536*cS l
def DD (l:List Nat):Prop:=∀d∈l,d<65536
def uU:List Nat->List Nat
 |[]=>[]
 |d::l=>if uU l=[] then(if d=0 then [] else [d]) else d::uU l
def dg (n:Nat):List Nat:=if n=0 then [] else n%65536::dg (n / 65536)
termination_by n
decreasing_by omega
theorem uK:dg 0=[]:=by unfold dg;rfl
theorem JW {n:Nat} (h:n≠0):dg n=n%65536::dg (n / 65536):=by rw[dg,if_neg h]
theorem SI {n:Nat}:dg n=[]↔n=0:=by
 constructor
 . intro h;refine Cr fun hn=>?_;rw[JW hn] at h;cases h
 rintro rfl;exact uK
theorem yH (n:Nat):cS (dg n)=n:=by
 induction n using dg.induct with
 |case1=>rw[uK];rfl
 |case2 n h ih=>rw[JW h,cS,ih];omega
theorem GF (n:Nat):DD (dg n):=by
 induction n using dg.induct with
 |case1=>rw[uK];intro d hd;cases hd
 |case2 n h ih=>
  rw[JW h];intro d hd
  rcases Am.1 hd with rfl|hd
  . omega
  exact ih d hd
theorem DD.tail {d:Nat} {l:List Nat} (h:DD (d::l)):DD l:=fun x hx=>h x (Au _ hx)
theorem JB:∀{l:List Nat},DD l->uU l=dg (cS l)
 |[],_=>by simp[uU,cS,uK]
 |d::l,h=>by
  have ih:=JB h.tail;have hd:=h d Ar;simp only[uU,ih,SI,cS];by_cases hv:cS l=0
  . rw[if_pos hv,hv];by_cases hd0:d=0
    . subst hd0;simp[uK]
    rw[if_neg hd0,JW (by omega),show(d+65536*0)%65536=d by omega,show(d+65536*0) / 65536=0 by omega,uK]
  rw[if_neg hv,JW (n:=d+65536*cS l) (by omega),show(d+65536*cS l)%65536=d by omega,show(d+65536*cS l) / 65536=cS l by omega]
theorem yG:∀{l:List Nat} {n:Nat},n<=l.length->(∀k,n<=k->k<l.length->l.getD k 0=0)->(n=0\/l.getD (n -1) 0≠0)->l.take n=uU l
 |[],n,_,_,_=>by simp[uU]
 |d::l,0,h,h1,_=>by
  have ih:=yG (l:=l) (n:=0) (Az _) (fun k _ hk=>by simpa using h1 (k+1) (Az _) (by simpa using hk)) (.inl rfl);have hd:d=0:=by simpa using h1 0 (Az _) (by simp)
  rw[Fc] at ih;simp[uU,<-ih,hd]
 |d::l,n+1,h,h1,h2=>by
  have hn:n<=l.length:=by simpa using h
  have h1':∀k,n<=k->k<l.length->l.getD k 0=0:=fun k hk hl=>by simpa using h1 (k+1) (by omega) (by simpa using hl)
  cases n with
  |zero=>have ih:=yG (l:=l) (n:=0) hn h1' (.inl rfl);have hd:d≠0:=(by simpa using h2);rw[Fc] at ih;simp[uU,<-ih,hd]
  |succ n=>
   have h2':l.getD n 0≠0:=(by simpa using h2);have ih:=yG (l:=l) (n:=n+1) hn h1' (.inr (by simpa using h2'));have cQ:l≠[]:=by rintro rfl;simp at hn
   have :¬uU l=[]:=by rw[<-ih];intro e;have hl:0<(l.take (n+1)).length:=(by rw[Cz];omega);rw[e] at hl;exact absurd hl (Ez 0)
   rw[uU,if_neg this,Dp,ih]
theorem QX {k:Nat}:∀{n:Nat},n<65536^k->(dg n).length<=k:=by
 induction k with
 |zero=>intro n h;have :n=0:=by simpa using h
        subst this;simp[uK]
 |succ k ih=>
  intro n h;by_cases hn:n=0
  . subst hn;simp[uK]
  rw[JW hn]
  have :n / 65536<65536^k:=by rw[Ea (by decide),<-Eg];exact h
  have :=ih this;simp only[As];omega
theorem CN:∀{l:List Nat},DD l->cS l<65536^l.length
 |[],_=>by simp[cS]
 |d::l,h=>by have ih:=CN h.tail;have hd:=h d Ar;rw[cS,As,Eg];omega
theorem uV:∀(a b:List Nat),cS (a++b)=cS a+65536^a.length*cS b
 |[],b=>by simp[cS]
 |d::a,b=>by have ih:=uV a b;rw[Er,cS,ih,cS,As,Eg,Ep,Dg (65536^a.length) 65536,<-Gu,Br]
theorem Kx {l:List Nat} {k:Nat} (h:k<l.length):cS (l.take (k+1))=cS (l.take k)+65536^k*l.getD k 0:=by
 rw[An,uV];have :(l.take k).length=k:=by simp;omega
 rw[this];simp[h,cS]
theorem DD.take {l:List Nat} (h:DD l) (k:Nat):DD (l.take k):=fun d hd=>h d (By hd)
theorem DD.getD {l:List Nat} (h:DD l) (k:Nat):l.getD k 0<65536:=by
 by_cases hk:k<l.length
 . rw[Bg,Ad hk];exact h _ (Ac hk)
 rw[Bg,Bv (by omega)];decide
theorem sR {l:List Nat} (h:DD l) {k:Nat} (hk:k<=l.length):cS (l.take k)<65536^k:=by
 have :=CN (h.take k)
 rwa [Cz,Nat.min_eq_left hk] at this
theorem bEi:W=65536*65536:=rfl
theorem BA (m:Nat):65536^(2*m)=W^m:=by rw[bEi,Nat.pow_mul]
theorem bu (m:Nat):65536^(2*m+1)=65536*W^m:=by rw[Eg,BA,Dg]
def mS (l:List Nat):List Nat:=l.flatMap fun w=>[w%65536,w / 65536]
theorem Ln:∀l:List Nat,cS (mS l)=CD l
 |[]=>rfl
 |w::l=>by have ih:=Ln l;have e:mS (w::l)=w%65536::w / 65536::mS l:=rfl;rw[e,cS,cS,ih,CD,W];omega
theorem QF:∀{l:List Nat},(∀w∈l,w<W)->DD (mS l)
 |[],_=>fun d hd=>by cases hd
 |w::l,h=>by
  have e:mS (w::l)=w%65536::w / 65536::mS l:=rfl;have hw:=h w Ar
  have lM:w / 65536<65536:=by have :W=65536*65536:=rfl;omega
  rw[e];intro d hd
  rcases Am.1 hd with rfl|hd
  . omega
  rcases Am.1 hd with rfl|hd
  . exact lM
  exact QF (fun w hw=>h w (Au _ hw)) d hd
theorem RF {v X m:Nat} (hm:m<16) (hv:v<W^16) (hx:bL v m+X<W):(bJ 16 v).set m (bL v m+X)=bJ 16 (v+X*W^m):=by have hl:LW 16 (bJ 16 v):=⟨cW _ _,IA⟩;have h1:=(hl.set m hx).eq;have h2:=MX (bJ 16 v) m (bL v m+X) (by rw[cW];exact hm);rw[kR hm,jE hv,Cs] at h2;rw[h1];congr 1;omega
theorem Xo {v m c:Nat} (h:v<c*W^m):bL v m<c/\v / W^m<c:=by have :v / W^m<c:=(Ea (lO m)).2 h;exact⟨Ja (Nat.mod_le _ _) this,this⟩
theorem WB {a b:List Nat} (ha:DD a) (hb:DD b) {k:Nat} (h:cS (a.drop (k+1))=cS (b.drop (k+1))) (fJ:a.getD k 0<b.getD k 0):cS a<cS b:=by
 have split:∀(l:List Nat),DD l->∃r,r<65536^k/\cS l=r+65536^k*(l.getD k 0+65536*cS (l.drop (k+1))):=fun l hl=>by
  by_cases hk:k<l.length
  . refine⟨cS (l.take k),sR hl (by omega),?_⟩
    have e:l=l.take k++(l.getD k 0::l.drop (k+1)):=by have :l.getD k 0=l[k]:=(by simp[List.getD,hk]);rw[this,<-Dk hk,Ie]
    have pA:(l.take k).length=k:=by simp;omega
    conv=>lhs;rw[e]
    rw[uV,pA,cS]
  refine⟨cS l,?_,?_⟩
  . exact Ck (CN hl) (Ds (by decide) (by omega))
  rw[Bg,Bv (by omega),Ca (by omega)];simp[cS]
 obtain⟨r,h1,e1⟩:=split a ha;obtain⟨s,h2,e2⟩:=split b hb;rw[e1,e2,h];generalize cS (b.drop (k+1))=t at *;have :a.getD k 0+65536*t+1<=b.getD k 0+65536*t:=by omega
 have :=Eu (65536^k) this;rw[Ep,Ed] at this;omega
theorem TY {a b:List Nat} {k:Nat} (h:cS (a.drop (k+1))=cS (b.drop (k+1))) (he:a.getD k 0=b.getD k 0):cS (a.drop k)=cS (b.drop k):=by
 have split:∀(l:List Nat),cS (l.drop k)=l.getD k 0+65536*cS (l.drop (k+1)):=fun l=>by
  by_cases hk:k<l.length
  . rw[Dk hk,cS];simp[List.getD,hk]
  rw[Ca (by omega),Ca (by omega),Bg,Bv (by omega)];simp[cS]
 rw[split,split,h,he]
theorem oj {a b:List Nat} {k c v:Nat} (h:v+65536^k*c=cS (a.take k)+cS (b.take k)):
 v+65536^k*((a.getD k 0+b.getD k 0+c)%65536)+65536^(k+1)*((a.getD k 0+b.getD k 0+c) / 65536)=cS (a.take (k+1))+cS (b.take (k+1)):=by
 have tk:∀l:List Nat,cS (l.take (k+1))=cS (l.take k)+65536^k*l.getD k 0:=fun l=>by
  by_cases hk:k<l.length
  . exact Kx hk
  rw[Aq (by omega),Aq (by omega),Bg,Bv (by omega)];simp
 rw[tk,tk,Eg,Gu];generalize hx:a.getD k 0+b.getD k 0+c=x;have e:65536^k*(x%65536)+65536^k*(65536*(x / 65536))=65536^k*x:=by rw[<-Ep,Nat.mod_add_div]
 have e2:65536^k*x=65536^k*a.getD k 0+65536^k*b.getD k 0+65536^k*c:=by rw[<-hx,Ep,Ep]
 omega
end Go.uE
namespace Go.aP
section
variable {p:Nat->V} {N:Nat}
theorem iq (p:Nat->V) (a b c:Nat):bC (vec p c b) (vec p c a)=neg (bC (vec p a b) (vec p a c)):=by simp only[vec,bC,sub,neg];apply V.ext'<;>simp only <;>grind
theorem UT (u w:V):dot (bC u w) w=0:=by simp only[dot,bC];grind
theorem Pa {u w:V} (h:dot u w=0):dot (gL u) w=0:=by
 by_cases hu:u=V0
 . subst hu;rw[RT];simp[dot,V0]
 have h1:=AD u w;rw[h] at h1;exact eO (c:=(gG u:Int)) (by have :=uC hu;omega) h1
theorem YK (p:Nat->V) (a b c:Nat):fC p c b a=(neg (fC p a b c).1,-(fC p a b c).2):=by unfold fC;rw[iq p a b c,IS,pG];have h:=Pa (UT (vec p a b) (vec p a c));rw[nQ] at h;rw[show dot (gL (bC (vec p a b) (vec p a c))) (p c)=dot (gL (bC (vec p a b) (vec p a c))) (p a) by omega]
theorem fx {a b c:Nat} {q:V×Int} (h:q∈jB p c b a):q∈jB p a b c:=by
 unfold jB at h ⊢;rw[YK] at h;split at h
 . cases h
 rename_i hz;rw[if_neg (fun e=>hz (by rw[e];rfl))];simp only[Am,Bj,Df,neg_neg,Int.neg_neg] at h ⊢
 rcases h with h|h
 . exact .inr h
 exact .inl h
def jD (p:Nat->V) (N:Nat) (i j k:Nat) (K:List (V×Int)):Prop:=
 ∀a b c,a<b->b<c->c<N->rN i j k a b c->∀q∈jB p a b c,pS p N q.1 q.2->q∈K
theorem jD.zero:jD p N 0 0 0 []:=fun a b c _ _ _ h=>by unfold rN at h;omega
theorem jD.j0 {i:Nat} {K:List (V×Int)} (h:jD p N i 0 0 K):jD p N i (i+1) 0 K:=fun a b c h1 h2 h3 hb q hq F=>h a b c h1 h2 h3 Za2 q hq F
theorem jD.k0 {i j:Nat} {K:List (V×Int)} (h:jD p N i j 0 K):jD p N i j (j+1) K:=fun a b c h1 h2 h3 hb q hq F=>h a b c h1 h2 h3 Za2 q hq F
theorem jD.kN {i j:Nat} {K:List (V×Int)} (h:jD p N i j N K):jD p N i (j+1) 0 K:=fun a b c h1 h2 h3 hb q hq F=>h a b c h1 h2 h3 Za2 q hq F
theorem jD.jN {i:Nat} {K:List (V×Int)} (h:jD p N i N 0 K):jD p N (i+1) 0 0 K:=fun a b c h1 h2 h3 hb q hq F=>h a b c h1 h2 h3 Za2 q hq F
theorem jD.step {i j k:Nat} {K K':List (V×Int)} (h:jD p N i j k K) (hs:∀q∈K,q∈K') (hn:∀q∈jB p i j k,pS p N q.1 q.2->q∈K'):jD p N i j (k+1) K':=fun a b c h1 h2 h3 hb q hq F=>by
 by_cases e:a=i/\b=j/\c=k
 . obtain⟨rfl,rfl,rfl⟩:=e;exact hn q hq F
 exact hs q (h a b c h1 h2 h3 Za2 q hq F)
theorem jD.all {K:List (V×Int)} (h:jD p N N 0 0 K) (hK:∀q∈K,pS p N q.1 q.2) (q:V×Int):q∈K↔pS p N q.1 q.2:=by refine⟨hK q,fun F=>?_⟩;obtain⟨i,j,k,h1,h2,h3,hc⟩:=gC F;exact h k j i h1 h2 h3 (.inl (by omega)) q (fx hc) F
end
section
variable {p:Nat->V} {N:Nat}
def okF (p:Nat->V) (N:Nat) (q:V×Int):Bool:=((List.range N).all fun k=>decide (dot q.1 (p k)<=q.2))&&(List.range N).any fun k=>decide (dot q.1 (p k)<q.2)
theorem bp {q:V×Int}:okF p N q=true↔(∀k,k<N->dot q.1 (p k)<=q.2)/\∃k,k<N/\dot q.1 (p k)<q.2:=by simp only[okF,Al,Aw,Bz,Ay,Bd]
def ltV (a b:V):Bool:=decide (a.x<b.x)||(decide (a.x=b.x)&&(decide (a.y<b.y)||(decide (a.y=b.y)&&decide (a.z<b.z))))
theorem au {a b:V}:ltV a b=true↔iY a b:=by simp only[ltV,iY,Dm,Al,Bd]
def aHz:List (V×Int)->Bool
 |[]=>true
 |q::r=>(r.all fun x=>ltV q.1 x.1)&&aHz r
theorem ct:∀{S:List (V×Int)},aHz S=true->S.Pairwise fun a b=>iY a.1 b.1
 |[],_=>.nil
 |q::r,h=>by simp only[aHz,Al,Aw] at h;exact Cl.2 ⟨fun x hx=>au.1 (h.1 x hx),ct h.2⟩
def gg (p:Nat->V) (N:Nat) (S:List (V×Int)):Bool:=
 aHz S&&(S.all fun q=>okF p N q&&(List.range N).any fun i=>(List.range i).any fun j=>(List.range j).any fun k=>(jB p i j k).contains q)&&
 ((List.range N).all fun i=>(List.range i).all fun j=>(List.range j).all fun k=>(jB p i j k).all fun q=> !okF p N q||S.contains q)
theorem HE {S:List (V×Int)} (h:gg p N S=true):pB p N S:=by
 simp only[gg,Al] at h;obtain⟨⟨h1,h2⟩,h3⟩:=h;refine⟨fun q=>⟨fun hq=>?_,fun hF=>?_⟩,ct h1⟩
 . have :=Aw.1 h2 q hq;simp only[Al,Bz,Ay] at this;obtain⟨ho,i,hi,j,hj,k,hk,hc⟩:=this;obtain⟨le,lt⟩:=bp.1 ho;exact xS (i:=i) (j:=j) (k:=k) hi (by omega) (by omega) (by simpa using hc) le lt
 obtain⟨i,j,k,hk,hj,hi,hc⟩:=gC hF;simp only[Aw,Ay] at h3;have :=h3 i hi j hj k hk q hc;rw[bp.2 ⟨hF.le,hF.lt⟩] at this;simpa using this
def aAj (on:List Nat) (f:Nat->Nat):List Nat:=match on with
 |[]=>[]
 |s::_=>(List.range (match (List.range on.length).find? (fun i=>iter f (i+1) s==s) with|some i=>i+1|none=>0)).map fun i=>iter f i s
theorem aHk {n:V} {d:Int} {L:List Nat} (h:Poly p N n d L):L=aAj (kI p N n d) (uH n p (kI p N n d)):=by
 obtain⟨s,r,m,e,W,rfl⟩:=h.ex
 have LP:(List.range (kI p N n d).length).find? (fun i=>iter (uH n p (kI p N n d)) (i+1) s==s)=some (m -1):=by have hp:=W.pos;have hle:=W.le;rw[List.find?_eq_some_iff_getElem];refine⟨by rw[show m -1+1=m by omega,Cf];exact W.back,m -1,by rw[Bw];omega,by rw[Hr],fun j hj=>?_⟩;rw[Hr];have :=W.first (j+1) (by omega) (by omega);simpa using this
 unfold aAj;generalize hf:uH n p (kI p N n d)=f at *;generalize kI p N n d=on at *;subst e;simp only;rw[LP];have hp:=W.pos;rw[show(match some (m -1) with|some i=>i+1|none=>0)=m from by show m -1+1=m;omega]
end
end Go.aP
namespace Go.Av
open Go
inductive Wk:AV->AV->Prop
 |refl (a:AV):Wk a a
 |bD (tag sz:Nat) (bB els':List (List AV)) (hl:els'.length=bB.length) (hs:(∀e∈bB,e.length=sz)->∀e∈els',e.length=sz) (hf:els'.flatten.length=bB.flatten.length)
   (h:∀j,j<bB.flatten.length->Wk (bB.flatten.getD j aD) (els'.flatten.getD j aD)):Wk (.bD tag sz bB) (.bD 0 sz els')
 |agg (cs Lr:List AV) (hl:Lr.length=cs.length) (h:∀j,j<cs.length->Wk (cs.getD j aD) (Lr.getD j aD)):Wk (.agg cs) (.agg Lr)
theorem Wk.one {a b:AV} (h:Wk a b):b.one=a.one:=by cases h<;>rfl
theorem VR.wk {G:Gh} {w:World} {a b:AV} (h:Wk a b):∀{u:Value},VR G w a u->VR G w b u:=by
 induction h with
 |refl a=>exact fun h=>h
 |bD tag sz bB els' hl hs hf hj ih=>
  intro u hv
  cases hv with
  |vE _ _ b o s ht=>obtain rfl:els'=[]:=Cm hl;exact .vE _ _ b o s (by omega)
  |bD _ _ _ b o cap us hu hc hv ht=>rw[<-hl];refine .bD 0 sz els' b o cap us (hs hu) (fun j FA=>?_) (fun j FA=>ih j (by omega) (hv j (by omega))) ⟨by rw[hl];exact ht.1,trivial⟩;have MO:j<bB.flatten.length:=(by omega);exact⟨(hc j MO).1,(hc j MO).2.1,by rw[(hj j MO).one];exact(hc j MO).2.2⟩
 |agg cs Lr hl hj ih=>
  intro u hv
  cases hv with
  |agg _ vs Ps h1 hv=>refine .agg Lr vs (by omega) (fun c hc=>?_) fun j FA=>ih j (by omega) (hv j (by omega));obtain⟨j,FA,rfl⟩:=Ej hc;have MO:j<cs.length:=(by omega);have :=(hj j MO).one;simp only[List.getD,Ad FA,Ad MO,Bi] at this;rw[this];exact h1 _ (Ac MO)
theorem Sound.wk {P:Program} {g:bG} {f:FuncId} {args si:List AV} {H H':aA} {out:Out} (h:Sound P g f si H out H') (hl:si.length=args.length) (hw:∀j,j<args.length->Wk (args.getD j aD) (si.getD j aD)):Sound P g f args H out H':=
 ⟨h.1,fun G w vs hG hv=>h.2 G w vs hG ⟨by rw[hl];exact hv.1,fun j hj=>VR.wk (hw j (by omega)) (hv.2 j (by omega))⟩⟩
mutual
def fgt:AV->AV
 |.bD _ sz bB=>.bD 0 sz (AF bB)
 |.agg cs=>.agg (tK cs)
 |a=>a
def tK:List AV->List AV
 |[]=>[]
 |x::r=>fgt x::tK r
def AF:List (List AV)->List (List AV)
 |[]=>[]
 |x::r=>tK x::AF r
end
theorem AG:∀l:List AV,(tK l).length=l.length
 |[]=>by simp[tK]
 |x::r=>by simp[tK,AG r]
theorem Qf:∀l:List (List AV),(AF l).length=l.length
 |[]=>by simp[AF]
 |x::r=>by simp[AF,Qf r]
theorem EP:∀l:List (List AV),(AF l).flatten=tK l.flatten
 |[]=>by simp[AF,tK]
 |x::r=>by
  have :∀a b:List AV,tK (a++b)=tK a++tK b:=fun a b=>by
   induction a with
   |nil=>simp[tK]
   |cons y a ih=>simp[tK,ih]
  simp[AF,EP r,this]
theorem Qg {sz:Nat}:∀{l:List (List AV)},(∀e∈l,e.length=sz)->∀e∈AF l,e.length=sz
 |[],_,e,he=>by simp[AF] at he
 |x::r,h,e,he=>by
  simp only[AF,Am] at he
  rcases he with rfl|he
  . rw[AG];exact h x Ar
  exact Qg (fun y hy=>h y (Au _ hy)) e he
theorem BU:∀(l:List AV) (j:Nat),j<l.length->(tK l).getD j aD=fgt (l.getD j aD)
 |[],j,hj=>absurd hj (Ap _)
 |x::r,0,_=>by simp[tK]
 |x::r,j+1,hj=>by have :=BU r j ZaC;simpa [tK] using this
theorem DS {l:List AV} {j:Nat} (hj:j<l.length):l.getD j aD∈l:=by rw[show l.getD j aD=l[j] by simp[List.getD,hj]];exact Ac hj
theorem Yv (a:AV):Wk a (fgt a):=by
 match a with
 |.bD tag sz bB=>rw[fgt];refine .bD tag sz bB _ (Qf bB) Qg (by rw[EP,AG]) fun j hj=>?_;rw[EP,BU _ _ hj];have hm:=DS hj;generalize bB.flatten.getD j aD=x at *;obtain⟨e,he,hx⟩:=Ii.1 hm;have h1:=Jx he;have h2:=Jx hx;exact Yv _
 |.agg cs=>rw[fgt];refine .agg cs _ (AG cs) fun j hj=>?_;rw[BU _ _ hj];have hm:=DS hj;generalize cs.getD j aD=x at *;have h2:=Jx hm;exact Yv _
 |.bool _|.int _ _|.str _|.KT|.ref _ _|.pl _|.aO|.sl _ _ _ _ _|.func _ _ _|.AP|.iface _ _|.wP|.iA _|.map _|.rV|.yield _=>simp only[fgt];exact .refl _
termination_by SizeOf.sizeOf a
decreasing_by
 . simp only[AV.bD.sizeOf_spec];omega
 simp only[AV.agg.sizeOf_spec];omega
theorem Sound.fgt {P:Program} {g:bG} {f:FuncId} {args:List AV} {H H':aA} {out:Out} (h:Sound P g f (tK args) H out H'):Sound P g f args H out H':=
 h.wk (AG _) fun j hj=>by rw[BU _ _ hj];exact Yv _
section
theorem VR.mo {G:Gh} {w:World} {a:AV} {u:Value} (h:VR G w a u) (b:Bool):VR ⟨G.loc,G.iB,b⟩ w a u:=h.mono (fun _ _ h=>h) (fun _ _ h=>⟨h,rfl⟩)
section
variable {P:Program} {g g':bG}
theorem Sound.up (hv:∀n cs,g n=some cs->g' n=some cs) (hm:g.mo=true) (hm':g'.mo=false) {f:FuncId} {args:List AV} {out:Out} (h:Sound P g f args ⟨0,.nil⟩ out ⟨0,.nil⟩):Sound P g' f args ⟨0,.nil⟩ out ⟨0,.nil⟩:=by
 refine⟨h.1,fun G w vs hw oU=>?_⟩
 have RB:WR g ⟨G.loc,G.iB,true⟩ ⟨0,.nil⟩ w:={
  cells:=fun id l cs eN h1 h2=>by obtain⟨a1,a2,a3,a4,a5⟩:=hw.cells id l cs eN h1 h2;exact⟨a1,a2,a3,a4,fun j hj=>let⟨u,hu,hv⟩:=a5 j hj;⟨u,hu,hv.mo true⟩⟩
  room:=hw.room
  kT:=hw.kT
  kE:=hw.kE
  iV:=fun id l o h1 h2 h3=>by cases h2
  lt:=hw.lt
  jA:=hw.jA
  jG:=fun n cs hn=>(hw.jG n cs (hv n cs hn)).mo true
  BV:=fun n cs hn h0=>hw.BV n cs (hv n cs hn) h0
  mo:=hm.symm}
 refine(h.2 ⟨G.loc,G.iB,true⟩ w vs RB ⟨oU.1,fun j hj=>(oU.2 j hj).mo true⟩).mono fun e w' ⟨G',h1,h2,h3⟩=>?_;have hG:G.mo=false:=hw.mo.trans hm'
 refine⟨⟨G'.loc,G'.iB,false⟩,{
  cells:=fun id l cs eN q1 q2=>by obtain⟨a1,a2,a3,a4,a5⟩:=h1.cells id l cs eN q1 q2;exact⟨a1,a2,a3,a4,fun j hj=>let⟨u,hu,hv⟩:=a5 j hj;⟨u,hu,hv.mo false⟩⟩
  room:=h1.room
  kT:=h1.kT
  kE:=h1.kE
  iV:=fun id l o q1 q2 q3=>by cases q2
  lt:=h1.lt
  jA:=h1.jA
  jG:=fun n cs hn=>(hw.jG n cs hn).mono h2.loc h2.iB
  BV:=fun n cs hn h0=>by obtain⟨c,el,fz,a1,a2⟩:=hw.BV n cs hn h0;refine⟨c,el,fz,?_,a2⟩;rw[h2.frame n (Cg.1 a1).1 (fun id l _ ⟨o,ho,_⟩=>by cases ho)];exact a1
  mo:=hm'.symm},{
  loc:=h2.loc
  iB:=h2.iB
  size:=h2.size
  frame:=h2.frame
  lP:=h2.lP
  pK:=h2.pK
  next:=h2.next
  news:=h2.news
  dead:=h2.dead
  mo:=hG.symm
  same:=⟨h2.same.os,h2.same.output,h2.same.tape,fun hb=>by rw[hG] at hb;cases hb⟩},?_⟩
 cases out with
 |ret v=>cases e with
  |returned u=>exact h3.mo false
  |_=>exact h3.elim
 |JL v=>cases e with
  |panicked c=>obtain⟨u,a,b⟩:=h3;exact⟨u,a,b.mo false⟩
  |_=>exact h3.elim
end
end
section
theorem aIc (nw tag:Nat):IZ none nw tag=IZ none 0 tag:=by
 match tag with
 |0=>rfl
 |1=>rfl
 |k+2=>rfl
theorem Vw (H:aA) (nw:Nat) (v:AV):fA H none nw v=fA H none 0 v:=by cases v<;>simp only[fA,aIc nw]
theorem FJ {f f':AV->Option AV} (h:∀x,f x=f' x):∀l,CX f l=CX f' l
 |[]=>rfl
 |x::r=>by simp only[CX,h x,FJ h r]
theorem Oy (H:aA) (nw:Nat):∀(n:Nat) (v:AV),fG H none nw n v=fG H none 0 n v
 |0,v=>by cases v<;>exact Vw H nw _
 |n+1,v=>by
  cases v with
  |agg cs=>simp only[fG,FJ (Oy H nw n) cs]
  |iA cs=>simp only[fG,FJ (Oy H nw n) cs]
  |_=>exact Vw H nw _
abbrev Fact:=FuncId×List AV×AV
def kn (f:FuncId) (args:List AV):List Fact->Option AV
 |[]=>none
 |e::r=>match Nat.beq f e.1 with
  |true=>match rH (tK args) e.2.1 with
   |true=>some e.2.2
   |false=>kn f args r
  |false=>kn f args r
def vO (P:Program) (g:bG) (K:List Fact):Prop:=∀e∈K,∀H,Sound P g e.1 e.2.1 H (.ret e.2.2) H
def aHa (K:List Fact) (o:Lp):Lp:=fun f args H=>match kn f args K with
 |some v=>some (.ret v,H)
 |none=>o f args H
def ran (g:bG) (T:FT) (WW:Lp) (II:FuncId->Nat->Bool) (n:Nat) (e:Fact):Bool:=
 match bO e.2.1 with
 |true=>match exF WW T.get g 100000 II 40 (.func (.func e.1) [] []) e.2.1 ⟨0,.nil⟩ with
  |some (.ret u,H2)=>match fG H2 none 0 n u with
   |some v=>v.same e.2.2
   |none=>false
  |_=>false
 |false=>false
section
variable {P:Program} {g:bG}
theorem ym {f:FuncId} {args:List AV} {v:AV}:∀{K:List Fact},vO P g K->kn f args K=some v->∀H,Sound P g f args H (.ret v) H
 |[],_,h,_=>by cases h
 |e::r,hK,h,H=>by
  have hr:vO P g r:=fun x hx=>hK x (Au _ hx);simp only[kn] at h;split at h
  . rename_i hf;split at h
    . rename_i hs;cases h;obtain rfl:=Be hf;exact Sound.fgt (by rw[nL _ _ hs];exact hK e Ar H)
    exact ym hr h H
  exact ym hr h H
theorem aHb {K:List Fact} (hK:vO P g K) {o:Lp} (ho:LA P g o):LA P g (aHa K o):=by
 intro f args H out H' h;unfold aHa at h;split at h
 . rename_i v hv;cases h;exact ym hK hv H
 exact ho _ _ _ _ _ h
theorem aTz (hm:Fit P g) (hg:DF g) {T:FT} (hT:T.o7 fun f F=>∃mu,kM P g mu f F) {WW:Lp} (ho:LA P g WW) {II:FuncId->Nat->Bool} (hn:QJ P g II) {n:Nat} {e:Fact} (h:ran g T WW II n e=true) (H:aA):Sound P g e.1 e.2.1 H (.ret e.2.2) H:=by
 unfold ran at h;split at h
 . rename_i ha;split at h
   . rename_i u H2 he;split at h
     . rename_i v hv;obtain rfl:=AV.TS _ _ h
       rcases JY hm ho hn (fun f F hF=>hT.get hF) 40 _ _ _ _ _ he with ⟨p,hp,hS⟩|⟨id,hc,_⟩
       . cases hp;simp only[Db,Ch] at hS;exact hS.frame hg ha (tk:=none) (fun k hk=>by cases hk) (n:=n) H (by rw[Oy];exact hv)
       cases hc
     cases h
   cases h
 cases h
def aKv:FuncId->Nat->Bool:=fun _ _=>false
theorem zm:QJ P g aKv:=fun _ _ h=>by cases h
theorem vO.nil:vO P g []:=fun e he=>by cases he
theorem vO.cons {K:List Fact} (hK:vO P g K) {f:FuncId} {args:List AV} {v:AV} (h:∀H,Sound P g f args H (.ret v) H):vO P g ((f,args,v)::K):=fun e he=>by
 rcases Am.1 he with rfl|he
 . exact h
 exact hK e he
theorem vO.ran {K:List Fact} (hK:vO P g K) (hm:Fit P g) (hg:DF g) {T:FT} (hT:T.o7 fun f F=>∃mu,kM P g mu f F) {o:Lp} (ho:LA P g o) {II:FuncId->Nat->Bool} (hn:QJ P g II) (n:Nat) {e:Fact} (h:Av.ran g T (aHa K o) II n e=true):vO P g (e::K):=fun x hx=>by
 rcases Am.1 hx with rfl|hx
 . exact aTz hm hg hT (aHb hK ho) hn h
 exact hK x hx
end
end
end Go.Av
namespace Go.Av
open Go Go.RowKit
section
def SM (P:Program) (fl:TypeId->Option (List TypeId)):List Field->List TypeId->Option (List TypeId)
 |[],acc=>some acc
 |f::r,acc=>match fl f.type with
  |some ts=>if f.offset=acc.length/\P.cellsOf f.type=ts.length then SM P fl r (acc++ts) else none
  |none=>none
def Uh (P:Program):Nat->TypeId->Option (List TypeId)
 |0,_=>none
 |d+1,t=>match P.underlying t with
  |some (.struct fs)=>match SM P (Uh P d) fs.toList [] with
   |some ts=>if P.cellsOf t=ts.length then some ts else none
   |none=>none
  |some (.array n e)=>match Uh P d e with
   |some ts=>if P.cellsOf e=ts.length/\P.cellsOf t=n*ts.length/\0<ts.length then some (List.replicate n ts).flatten else none
   |none=>none
  |some (.int _)=>some [t]
  |some (.slice _)=>some [t]
  |some .string=>some [t]
  |_=>none
section
variable {H:Type} {enc:TypeId×Value->H} {P:Program} {w:World} {base:Nat} {spare:Nat->Bool} {held:Bool}
def pX (enc:TypeId×Value->H) (P:Program) (w:World) (base:Nat) (spare:Nat->Bool) (held:Bool) (ts:List TypeId) (cs:List Value):Prop:=
 ∀(i:Nat) (u:TypeId),ts[i]?=some u->∃(v:Value) (m:Nat) (y:DataW H×List MemPlace),cs[i]?=some v/\DataW.trod enc P w base spare held m u [v]=some y
theorem DU {ts us:List TypeId} {cs:List Value} (h1:pX enc P w base spare held ts cs) (h2:pX enc P w base spare held us (cs.drop ts.length)):pX enc P w base spare held (ts++us) cs:=by
 intro i u h;by_cases hi:i<ts.length
 . rw[Ev hi] at h;exact h1 i u h
 rw[Fx (by omega)] at h;obtain⟨v,m,y,hv,hy⟩:=h2 _ u h;refine⟨v,m,y,?_,hy⟩;rw[Fv] at hv;rw[<-hv];congr 1;omega
theorem Le {ts:List TypeId} {cs:List Value} (n:Nat) (h:pX enc P w base spare held ts (cs.take n)):pX enc P w base spare held ts cs:=by
 intro i u hu;obtain⟨v,m,y,hv,hy⟩:=h i u hu;refine⟨v,m,y,?_,hy⟩;rw[Ht] at hv;split at hv
 . exact hv
 cases hv
theorem DV {fl:TypeId->Option (List TypeId)} {n:Nat} {cs:List Value}
 (vD:∀(u:TypeId) (ts:List TypeId) (cs:List Value) (x:DataW H×List MemPlace),fl u=some ts->DataW.trod enc P w base spare held n u cs=some x->pX enc P w base spare held ts cs):
 ∀(fs:List Field) (acc ts:List TypeId),SM P fl fs acc=some ts->pX enc P w base spare held acc cs->
  (∀f∈fs,∃x,DataW.trod enc P w base spare held n f.type ((cs.drop f.offset).take (P.cellsOf f.type))=some x)->pX enc P w base spare held ts cs
 |[],acc,ts,h,ha,hf=>by obtain rfl:=Aa h;exact ha
 |f::r,acc,ts,h,ha,hf=>by
  unfold SM at h;split at h
  . rename_i us hus;split at h
    . rename_i hc;obtain⟨x,hx⟩:=hf f (Ar ..);refine DV vD r _ ts h (DU ha ?_) (fun g hg=>hf g (Au _ hg));rw[<-hc.1];exact Le _ (vD _ _ _ _ hus hx)
    cases h
  cases h
theorem Oj {e:TypeId} {n:Nat} {ts:List TypeId}:∀(k:Nat) (cs:List Value),(∀i,i<k->pX enc P w base spare held ts ((cs.drop (i*ts.length)).take ts.length))->pX enc P w base spare held (List.replicate k ts).flatten cs
 |0,cs,h=>by intro i u hu;simp at hu
 |k+1,cs,h=>by
  rw[Dx,Bl];refine DU ?_ ?_
  . have :=h 0 (by omega);rw[Iw,Ee] at this;exact Le _ this
  refine Oj (e:=e) (n:=n) k _ fun i hi=>?_;have :=h (i+1) (by omega);rw[Jc];rw[show ts.length+i*ts.length=(i+1)*ts.length by rw[Cs,Hv,Fa]];exact this
theorem oX:∀(d:Nat) {t:TypeId} {ts:List TypeId} {fuel:Nat} {cs:List Value} {x:DataW H×List MemPlace},Uh P d t=some ts->DataW.trod enc P w base spare held fuel t cs=some x->pX enc P w base spare held ts cs
 |0,t,ts,fuel,cs,x,h,hx=>by cases h
 |d+1,t,ts,fuel,cs,x,h,hx=>by
  unfold Uh at h;split at h
  . rename_i fs ht;split at h
    . rename_i us hus;split at h
      . obtain rfl:=Aa h;obtain⟨xs,n,_,_,hl,Sm,hf⟩:=DataW.trod_struct ht hx;refine DV (n:=n) (fun u ts cs x h1 h2=>oX d h1 h2) fs.toList [] us hus (fun i u hu=>by simp at hu) fun f hfm=>?_;obtain⟨i,hi,hif⟩:=Ej hfm;have :=hf i f (by rw[<-hif];simp);rw[this];have gQ:i<xs.length:=(by rw[Sm];simpa using hi);exact⟨_,Ad gQ⟩
      cases h
    cases h
  . rename_i n e ht;split at h
    . rename_i us hus;split at h
      . rename_i hc;obtain rfl:=Aa h;obtain⟨xs,m,_,_,hl,Sm,hf⟩:=DataW.trod_array ht hx;refine Oj (e:=e) (n:=m) n cs fun i hi=>?_;have :=hf i hi;rw[hc.1,Ad (by omega)] at this;exact oX d hus this
      cases h
    cases h
  . rename_i k ht;obtain rfl:=Aa h;obtain⟨n,rfl,_⟩:=DataW.trod_int ht hx;intro i u hu
    match i,hu with
    |0,hu=>exact⟨_,fuel,x,rfl,by simpa [<-Aa hu] using hx⟩
  . rename_i e ht;obtain rfl:=Aa h
    have hc:∃c,cs=[c]:=by
     rcases DataW.trod_slice ht hx with ⟨h,_⟩|⟨a,len,cap,_,_,_,_,h,_⟩
     . exact⟨_,h⟩
     exact⟨_,h⟩
    obtain⟨c,rfl⟩:=hc;intro i u hu
    match i,hu with
    |0,hu=>exact⟨_,fuel,x,rfl,by simpa [<-Aa hu] using hx⟩
  . rename_i ht;obtain rfl:=Aa h;obtain⟨z,rfl,_⟩:=DataW.trod_string ht hx;intro i u hu
    match i,hu with
    |0,hu=>exact⟨_,fuel,x,rfl,by simpa [<-Aa hu] using hx⟩
  cases h
theorem YV {ts:List TypeId} {cs:List Value} (h:pX enc P w base spare held ts cs) {i:Nat} {u:TypeId} (hu:ts[i]?=some u) (hk:P.underlying u=some .string):
 ∃z:ByteArray,cs[i]?=some (.string z)/\z.size<=maxLen:=by
 obtain⟨v,m,y,hv,hy⟩:=h i u hu;obtain⟨z,hz,_,hs⟩:=DataW.trod_string hk hy;refine⟨z,?_,hs⟩;rw[hv];simpa using hz
theorem fD {ts:List TypeId} {cs:List Value} (h:pX enc P w base spare held ts cs) {i:Nat} {u:TypeId} {k:IntKind} (hu:ts[i]?=some u) (hk:P.underlying u=some (.int k)):
 ∃n,cs[i]?=some (.int k n)/\(Lit.int k n).wf=true:=by
 obtain⟨v,m,y,hv,hy⟩:=h i u hu;obtain⟨n,hn,_,hw⟩:=DataW.trod_int hk hy;refine⟨n,?_,hw⟩;rw[hv];simpa using hn
end
end
end Go.Av
namespace Go.Av
open Go Go.RowKit Go.ChangeShapes Go.WideShapes Go.ChangeAt Go.Deep
section
def oR (mo:Bool) (W:World):Gh:=⟨fun _=>none,fun b o=>∃v,W.cell? ⟨b,o,none⟩=some v,mo⟩
theorem aRx {g:bG} {W:World} (hg:∀n cs,g n=some cs->VR (oR g.mo W) W (.pl cs) (.pointer (some ⟨n,0,none⟩)))
 (hs:∀n cs,g n=some cs->cs≠[]->∃c el fz,W.heap[n]?=some (.cells c el fz)/\c.size=cs.length):WR g (oR g.mo W) ⟨0,.nil⟩ W where
 cells:=fun id l cs eN h=>by cases h
 room:=fun id l h=>by cases h
 kT:=fun id kU l l' _ h=>by cases h
 kE:=fun id l h=>by cases h
 iV:=fun id l es h=>by cases h
 lt:=fun id l h=>by cases h
 jA:=fun b o h=>h
 jG:=hg
 BV:=hs
 mo:=rfl
theorem HG {mo:Bool} {W W':World} {G':Gh} {H':aA} (h:Ext (oR mo W) ⟨0,.nil⟩ W G' H' W') {b:Nat} (hb:b<W.heap.size):W'.heap[b]?=W.heap[b]?:=
 h.frame b hb fun id l hl=>by cases hl
theorem n9 {w:World} {a:Addr} {v:Value} (h:w.cell? a=some v):a.spot=none:=World.cell?_spot h
theorem rq (b o j:Nat):(Addr.mk b o none).add j=⟨b,o+j,none⟩:=by
 unfold Addr.add;split
 . rename_i h;rw[h];rfl
 rfl
section
variable {H:Type} {enc:TypeId×Value->H} {P:Program} {w:World} {base:Nat} {held:Bool}
end
theorem XT {mo:Bool} {W W':World} {G':Gh} {H':aA} (h:Ext (oR mo W) ⟨0,.nil⟩ W G' H' W') (a:Addr) (ha:a.block<W.heap.size):W'.frozen? a=W.frozen? a:=by simp only[World.frozen?,HG h ha]
theorem yl {mo:Bool} {W W':World} {G':Gh} {H':aA} (h:Ext (oR mo W) ⟨0,.nil⟩ W G' H' W') (may:MemPlace->Prop):W.keptBut W' may:=by
 refine⟨h.same.1,h.same.2,fun i hi=>?_⟩;rw[HG h hi]
 cases W.heap[i]? with
 |none=>rfl
 |some o=>
  cases o with
  |cells c t fr=>exact⟨rfl,rfl,rfl,fun _ _=>rfl⟩
  |map es clock=>exact .inr ⟨rfl,rfl⟩
  |_=>rfl
section
variable {H:Type} {enc:TypeId×Value->H} {P:Program}
theorem VZ {mo:Bool} {f:Func} {s:ChangeSpec} {apart fresh handsOn again:Bool} {W W':World} {args:Array Value} {v:Value} {ds gs:List (DataW H)} {before pa pv:List MemPlace} {G':Gh} {H':aA}
 (hE:Ext (oR mo W) ⟨0,.nil⟩ W G' H' W')
 (hW:DataW.Whole enc P f.params.toList s.vars apart W args.toList ds gs before)
 (aFm:∀(b:Nat) (sp:Nat->Bool) (hd:Bool),DataW.TrodAll enc P W' b sp hd f.resultTypes.toList (v.resultList f.resultTypes.size) (s.fn H (ds++gs)).results [])
 (No:∀sp:Nat->Bool,(∀p∈before,sp p.block=true)->DataW.TrodAll enc P W' 0 sp true f.params.toList args.toList (s.fn H (ds++gs)).args pa)
 (aJp:∀sp:Nat->Bool,(∀p∈before,sp p.block=true)->DataW.TrodVars enc P W' sp s.vars (s.fn H (ds++gs)).vars pv)
 (Uv:before=pa++pv)
 (qP:∀(j:Nat) (t:TypeId) (r:Value),f.resultTypes[j]?=some t->(v.resultList f.resultTypes.size)[j]?=some r->Value.okWide P W' .any 0 t r):
 s.post enc P f apart fresh handsOn again W args v W':=by
 have hold:∀p∈before,(fun b=>decide (b<W.heap.size)) p.block=true:=fun p hp=>by simpa using hW.lt p hp
 refine⟨ds,gs,before,[],pa,pv,hW,aFm _ _ _,No _ hold,aJp _ hold,yl hE _,fun _=>?_⟩;obtain⟨_,_,_,_,_,hz,hn⟩:=id hW;refine⟨qP,_,_,([]++pa)++pv,⟨[]++pa,pv,trodAll_append (No _ (fun _ _=>rfl)) (aFm _ _ _),aJp _ (fun _ _=>rfl),rfl,?_,?_⟩,?_⟩
 . intro b off hp;have hp':MemPlace.cell b off∈before:=by rw[Uv];simpa using hp
   rw[XT hE _ (hW.lt _ hp')];exact hz b off hp'
 . intro ha;have :=hn ha;rw[Uv] at this;simpa using this
 intro p hp _;rw[Uv];simpa using hp
end
end
end Go.Av
namespace Go.Av
section
def zP:=And.intro bEc (And.intro aCb bEd)
def zG:=And.intro bEc <| And.intro sy <| And.intro gq <| And.intro @AV.cells.eq_1 <| And.intro @AV.cells.eq_2 <| And.intro @AV.yN.eq_1 <| And.intro @AV.yN.eq_2 <| And.intro @xB.eq_1 <| And.intro @xB.eq_2 <| And.intro @xB.eq_3 <| And.intro @xB.eq_4 <| And.intro @xB.eq_5 <| And.intro @xB.eq_6 <| And.intro @unA.eq_1 <| And.intro @unA.eq_2 <| And.intro @unA.eq_3 <| And.intro @unA.eq_4 <| And.intro @unA.eq_5 <| And.intro @unA.eq_6 @fN.eq_1
def zI:=And.intro @aA.eS.eq_1 <| And.intro sh <| And.intro sn <| And.intro sl <| And.intro @fW.eq_1 <| And.intro @GY.eq_1 <| And.intro @GY.eq_2 <| And.intro @KQ.eq_1 <| And.intro @KQ.eq_2 <| And.intro Gw <| And.intro Gb <| And.intro @false_implies <| And.intro @implies_true.{0} <| And.intro @implies_true.{1} <| And.intro aUl <| And.intro iz <| And.intro cOl <| And.intro @AV.cells.eq_1 <| And.intro @AV.cells.eq_2 <| And.intro @AV.yN.eq_1 <| And.intro @AV.yN.eq_2 <| And.intro @xB.eq_1 <| And.intro @xB.eq_2 <| And.intro @xB.eq_3 <| And.intro @xB.eq_4 <| And.intro @xB.eq_5 @xB.eq_6
def zD:=And.intro @eE.fresh.eq_1 <| And.intro @eE.fresh.eq_2 <| And.intro @eE.fresh.eq_3 <| And.intro @eE.fresh.eq_4 <| And.intro @eE.fresh.eq_5 <| And.intro @eE.fresh.eq_6 <| And.intro bIz <| And.intro bEe <| And.intro @ZE <| And.intro @eE.dK.eq_1 <| And.intro @eE.dK.eq_2 <| And.intro @eE.dK.eq_3 <| And.intro @eE.dK.eq_4 <| And.intro @eE.dK.eq_5 <| And.intro @AK.eq_1 <| And.intro @AK.eq_2 <| And.intro @AK.eq_3 <| And.intro @AK.eq_4 <|
 And.intro @false_implies <| And.intro @implies_true.{0} <| And.intro @implies_true.{1} <| And.intro @forall_const.{0} <| And.intro @forall_const.{1} <| And.intro @Ka <| And.intro @Kb <| And.intro @Bj.{0} <| And.intro @Am.{0} <| And.intro @Df <| And.intro @false_or <| And.intro @Ak.{0,0} <| And.intro @forall_eq.{1} <| And.intro @forall_eq_or_imp.{1} <| And.intro @forall_eq'.{1} @Ae.{0}
def zR:=And.intro @BC.eq_1 <| And.intro @BC.eq_2 <| And.intro @aAu.eq_1 <| And.intro @aAu.eq_2 <| And.intro zG zI
def zB:=And.intro aCb <| And.intro @ne_eq.{1} @Hy
theorem tB {p q:Prop} [Decidable p] [Decidable q] (h:p↔q):True/\True/\AV.bool (decide p)=AV.bool (decide q):=⟨trivial,trivial,Bn AV.bool (Bs.2 h)⟩
theorem Rx {rs:List GD} {R:Out->aA->Prop} {f:dE} {H:aA} {vs:List AV} (hR:R (.ret (nB vs)) H) (hv:BC f H rs=some vs:=by(simp only[↓zP,zR,seval];rfl)):MA rs R .ret f [] H:=⟨rfl,vs,hv,hR⟩
def zJ:=And.intro zG zI
def zM:=And.intro sm <| And.intro @Ip.{0} @Kb
theorem wI {z y:Int} (h: -2^63<=z/\z<2^63/\z=y):IntKind.i64.wrap z=y:=by rw[wrap_i64 h.1 h.2.1];exact h.2.2
theorem eL (h:aA) (s t:Nat) (x:List AV):cK h s (.bD t s [x])=some [x]:=by simp[cK]
theorem Dz {P:Program} {g:bG} {n:Nat} {f:dE} {ds:List gN} {H:aA} {Q:FQ} {pairs:List (Nat×Nat)} {rl:List bK} (h:eF P g n pairs H.next 0 0 rl [] [] f H fun f' H'=>Q .normal f' ds H') (h0:rl.countP (·.op.fresh)=0:=by decide):FC P g n (.draw rl pairs) f ds H Q:=Tu h0 h
structure Kt (P:Program) (g:bG) (n:Nat) (b:cF) (Q:FQ) (f:dE) (ds:List gN) (H:aA):Prop where
 h:FC P g n b f ds H Q
theorem aY {P:Program} {g:bG} {n:Nat} {b:cF} {Q:FQ} {f f':dE} {ds:List gN} {H H':aA} (hf:f=f') (hH:H=H'):Kt P g n b Q f ds H=Kt P g n b Q f' ds H':=by rw[hf,hH]
theorem bR {P:Program} {g:bG} {n:Nat} {b:cF} {Q:FQ} {f:dE} {ds:List gN} {H:aA} (h:FC P g n b f ds H Q):Kt P g n b Q f ds H:=⟨h⟩
theorem bQ {P:Program} {g:bG} {n:Nat} {a b:cF} {Q:FQ} {f:dE} {ds:List gN} {H:aA} (h:FC P g n a f ds H (iX (Kt P g n b Q) Q)):FC P g n (.seq a b) f ds H Q:=by
 rw[ZD];refine jS (fun e f ds H hq=>?_) h
 cases e with
 |normal=>exact hq.h
 |_=>exact hq
theorem fF {P:Program} {g:bG} {n:Nat} {a b:cF} {Q:FQ} {f:dE} {ds:List gN} {H:aA} (h:FC P g n a f ds H (iX (Kt P g n b Q) Q)):Kt P g n (.seq a b) Q f ds H:=⟨bQ h⟩
section
variable {P:Program} {g:bG} {n:Nat} {f:dE} {H:aA} {d:Nat} {fid:FuncId} {azs:List Arg} {args:List AV} {v:AV} {H':aA}
theorem bY {r:List bK} {ds:List gN} {Q:FQ} (hS:Sound P g fid args H (.ret v) H') (h:bS P g n r (kH f d v) ds H' Q) (hd:d<n:=by decide) (ha:azs.map (nH g f)=args:=by simp only[sm,aCb,Nat.reduceEqDiff,fN]):
 bS P g n (⟨some d,.call (.const (.func (.func fid) [] [])) azs,none⟩::r) f ds H Q:=eh hd ha hS h
theorem fP {pairs:List (Nat×Nat)} {base i k:Nat} {rs:List bK} {rd:List (Nat×Nat)} {ef:List (Nat×aA×aA)} {R:dE->aA->Prop} (hS:Sound P g fid args H (.ret v) H')
 (h:eF P g n pairs base (i+1) k rs rd ((i,H,H')::ef) (kH f d v) H' R) (hd:d<n:=by decide) (ha:azs.map (nH g f)=args:=by simp only[sm,aCb,ne_eq,Nat.reduceEqDiff,Hy]) (hn:H.next<=H'.next:=by exact Ab _)
 (hr:∀x∈rd,(x.1,i)∈pairs->H.get x.2=H'.get x.2:=by exact fun _ _ _=>rfl):eF P g n pairs base i k (⟨some d,.call (.const (.func (.func fid) [] [])) azs,none⟩::rs) rd ef f H R:=iQ hd ha hS hn hr h
end
theorem Ks {f g f0:Nat->AV} {n:Nat} {v:AV} (h:f=g) (e:f0 n=v) (k:g n=f0 n:=by simp only[zB,seval]):f n=v:=by rw[h,k,e]
theorem zq {a b:AV} (k:a=b:=by simp only[zB,seval]):a=b:=k
theorem Tz {p q:Prop} (h:q) (k:p=q:=by simp only[↓zP,zG,seval];exact rfl):p:=by rw[k];exact h
theorem Ty {p q:Prop} (h:q) (k:p=q:=by simp only[↓zP,zJ,seval];exact rfl):p:=by rw[k];exact h
theorem Tx {p q:Prop} (h:q) (k:p=q:=by simp only[↓zP,seval];exact rfl):p:=by rw[k];exact h
end
end Go.Av
namespace Go.Proofs.YtgggiembljfnhaaGreatDoor
open Go Go.Av
def bEn:Nat->Option (List AV):=fun _=>none
def gv:bG:=mkG Tryz.prog bEn
theorem fit:Fit Tryz.prog gv:=a8 (by kernel_rfl)
theorem eZ:DF gv:=fun n cs h=>by cases h
abbrev Sg (f:FuncId) (args:List AV) (H:aA) (out:Out) (H':aA):Prop:=Sound Tryz.prog gv f args H out H'
abbrev CW (f:Go.Func):={x:BM // KS Tryz.prog gv false f=some x}
theorem cM {k:FuncId} {f:Go.Func} (h:Tryz.prog.funcs[k]?=some f) (W:CW f) (h2:(f.name== "runtime.NumGoroutine")=false:=by kernel_rfl):kM Tryz.prog gv false k W.1:=jF h h2 W.2
abbrev Fi (k:FuncId) {f:Go.Func} (W:CW f):=kM Tryz.prog gv false k W.1
theorem Sp {mu:Bool} {k:FuncId} {F:BM} (hF:kM Tryz.prog gv mu k F) {args:List AV} {v:AV} (ha:bO args=true) (hv:v.free=true)
 (h:FC Tryz.prog gv F.ntmps F.body (fN args) [] ⟨0,.nil⟩ (MA F.results fun o _=>o=.ret v)) (H:aA) (hl:args.length<=F.ntmps:=by exact Ai rfl):Sound Tryz.prog gv k args H (.ret v) H:=
 EF fit eZ hF hl ha hv h H
theorem So {mu:Bool} {k:FuncId} {F:BM} (hF:kM Tryz.prog gv mu k F) {args:List AV} {v:AV} (ha:bO args=true)
 (h:FC Tryz.prog gv F.ntmps F.body (fN args) [] ⟨0,.nil⟩ (MA F.results fun o _=>o=.ret v)) (H:aA) (hv:v.free=true:=by simp only[sf,sfI,cT]) (hl:args.length<=F.ntmps:=by exact Ai rfl):Sound Tryz.prog gv k args H (.ret v) H:=
 EF fit eZ hF hl ha hv h H
theorem cX {g:bG} {mu:Bool} {fn:Go.Func} {F:BM} (h:(KS Tryz.prog g mu fn).isSome=true:=by kernel_rfl) (hx:mkX Tryz.prog g mu fn=some F:=by conv=>lhs;cbv):KS Tryz.prog g mu fn=some F:=zh h hx
def mkY (P:Program) (g:bG) (mu:Bool) (fn:Go.Func) (c:Code):Option BM:=
 match dV P g mu c,uJ P fn.results.toList with
  |some b,some r=>some ⟨fn.ntmps,r,b⟩
  |_,_=>none
theorem vF {g:bG} {mu:Bool} {fn:Go.Func} {F:BM} {b:Code} (hb:fn.body=some b:=by exact rfl) (h:(KS Tryz.prog g mu fn).isSome=true:=by kernel_rfl) (hx:mkY Tryz.prog g mu fn b=some F:=by
 conv=>lhs;unfold mkY;simp only[ax]
 (try conv in (occs:= *) lT _ _ _ _ _=>all_goals cbv)
 (try simp only[Bu])
 (try conv in (occs:= *) sP _ _=>all_goals cbv)
 conv=>lhs;cbv):KS Tryz.prog g mu fn=some F:=zh h (by unfold mkX;rw[hb];exact hx)
theorem gH {f:FuncId} {mu:Bool} {F:BM} (hF:kM Tryz.prog gv mu f F) {args:List AV} (ha:args.length<=F.ntmps) {H H':aA} {out:Out}
 (h:FC Tryz.prog gv F.ntmps F.body (fN args) [] H (MA F.results fun o h=>o=out/\h=H')) (hdt:F.body.dO=true:=by first|rfl|decide):Sound Tryz.prog gv f args H out H':=by
 obtain⟨_,_,⟨rfl,rfl⟩,hS⟩:=cZ fit hF ha h hdt;exact hS
def upC:List AV:=[.int .i64 0,.int .i64 0,.int .i64 1]
def Nj (n:Nat):Option (List AV):=match Nat.beq n 0 with
 |true=>some upC
 |false=>match Nat.beq n 999999999 with
  |true=>some []
  |false=>none
def DL:bG:=mkG Tryz.prog Nj
abbrev St (f:FuncId) (args:List AV) (H:aA) (out:Out) (H':aA):Prop:=Sound Tryz.prog DL f args H out H'
theorem aVd:Fit Tryz.prog DL:=a8 (by kernel_rfl)
theorem XV:DF DL:=fun n cs h=>by
 have h:Nj n=some cs:=h;unfold Nj at h;split at h
 . cases h;rfl
 split at h
 . cases h;rfl
 cases h
theorem moT:DL.mo=false:=rfl
theorem toT {f:FuncId} {args:List AV} {v:AV} (ha:bO args=true) (hv:v.free=true) (h:∀H,Sg f args H (.ret v) H) (H:aA):Sound Tryz.prog DL f args H (.ret v) H:=
 (Sound.up (g:=gv) (g':=DL) (fun n cs h=>by cases h) rfl moT (h ⟨0,.nil⟩)).frame XV ha (tk:=none) (fun k hk=>by cases hk) (n:=0) H (CM hv)
theorem aUn {K:List Fact} (h:vO Tryz.prog gv K) (hf:(K.all fun e=>bO e.2.1&&e.2.2.free)=true):vO Tryz.prog DL K:=fun e he H=>by have :=Aw.1 hf e he;rw[Al] at this;exact toT this.1 this.2 (h e he) H
end Go.Proofs.YtgggiembljfnhaaGreatDoor
namespace Go.Proofs.YtgggiembljfnhaaGreatDoor
open Go Go.Av Go.aP
open Go.ChangeShapes Go.WideShapes Go.ChangeAt Go.RowKit
theorem own:ownKnob Tryz.prog.godebug=none:=by kernel_rfl
theorem laidOut:laidOutB Tryz.prog=true:=by kernel_rfl
def ah:List (String×DataW Unit):=Rows.yardAppliesAsSpecifiedRow.laid
theorem gUp:Tryz.prog.globalNamed "skewback/contact.up" =some 0:=by kernel_rfl
theorem tUp:(Tryz.prog.globals[0]?).map (·.type)=some 60:=by kernel_rfl
def ZF:AV->DataW Unit
 |.int k n=>.lit (.int k n)
 |_=>.nil
theorem bEg:Rows.laid_skewback_contact_up=DataW.agg (upC.map ZF):=by kernel_rfl
theorem aFd {W:World} {mo:Bool} {enc:TypeId×Value->Unit} {name:String} {g:Nat} {cs:Array Value} {base fuel:Nat} {sp:Nat->Bool} {hd:Bool} {p:List MemPlace} (hg:Tryz.prog.globalNamed name=some g) (hv:W.var? Tryz.prog name=some cs)
 (h:DataW.trod enc Tryz.prog W base sp hd fuel 60 cs.toList=some (DataW.agg (upC.map ZF),p)):VR (oR mo W) W (.pl upC) (.pointer (some ⟨g,0,none⟩))/\∃c el fz,W.heap[g]?=some (.cells c el fz)/\c.size=upC.length:=by
 obtain⟨xs,m,_,hx,hl,Sm,WO⟩:=DataW.trod_array Tryz.underlying60 h;have c1:Tryz.prog.cellsOf 3=1:=by kernel_rfl
 have c3:Tryz.prog.cellsOf 60=3:=by kernel_rfl
 simp only[Ak,DataW.agg.injEq] at hx;have hr:upC.length=3:=rfl
 have key:∀j,j<3->∃n,cs[j]?=some (.int .i64 n)/\upC.getD j aD=.int .i64 n:=by
  intro j hj;have h1:=WO j hj;rw[c1,Ed,Ad (by omega)] at h1;obtain⟨n,e1,e2,_⟩:=DataW.trod_int Tryz.underlying3 h1;refine⟨n,?_,?_⟩
  . have h3:(((cs.toList.drop j).take 1))[0]?=some (.int .i64 n):=by rw[e1];rfl
    rw[Ht,if_pos (by decide),Fv] at h3;simpa using h3
  have h2:(upC.map ZF)[j]?=some (.lit (.int .i64 n)):=by rw[hx.1,Cv,Ad (by omega),e2];rfl
  rw[Cv] at h2;rw[List.getD]
  cases hq:upC[j]? with
  |none=>rw[hq] at h2;cases h2
  |some a=>rw[hq] at h2;simp only[Bu,Ae] at h2;cases a<;>simp[ZF] at h2;obtain⟨rfl,rfl⟩:=h2;rfl
 have cell:∀j,W.cell? ⟨g,0+j,none⟩=cs[j]?:=fun j=>by rw[Cq];exact World.var?_cell hg hv j
 obtain⟨f,hf⟩:=Go.Deep.choose_lt (α:=Int) (n:=3) (p:=fun j n=>cs[j]?=some (.int .i64 n)/\upC.getD j aD=.int .i64 n) key;refine⟨.pl upC g 0 (fun j=>.int .i64 (f j)) (fun j hj=>?_) (fun j hj=>?_),?_⟩
 . rw[hr] at hj;have :=hf j hj;refine⟨⟨_,(cell j).trans this.1⟩,(cell j).trans this.1,?_⟩;rw[this.2];rfl
 . rw[hr] at hj;rw[(hf j hj).2];exact .int _ _
 unfold World.var? at hv;rw[hg] at hv;simp only[Option.bind_some] at hv;split at hv
 . rename_i c el fz hh;cases hv;exact⟨_,_,_,hh,by rw[hr];rw[c3] at hl;simpa using hl⟩
 cases hv
theorem aGa {W:World} (h:laidMetH Tryz.prog ah W):WR DL (oR false W) ⟨0,.nil⟩ W:=by
 rw[MakeChecks.laidMetH_plain _ _ _ (by kernel_rfl)] at h;obtain⟨ps,⟨g0,t0,cs0,f0,p0,q0,we,Qz,PQ,hd0,⟨g1,t1,cs1,f1,p1,q1,JI,ht1,tR,MK,_,_⟩,_⟩,_,_⟩:=h;obtain rfl:=Aa (gUp.symm.trans JI);obtain rfl:=Aa (tUp.symm.trans ht1);rw[bEg] at MK;have G:=fun mo=>aFd (mo:=mo) JI tR MK;refine aRx (fun n cs hn=>?_) fun n cs hn h0=>?_;rotate_left
 . have hn:Nj n=some cs:=hn;unfold Nj at hn;split at hn
   . rename_i hb;obtain rfl:=Be hb;cases hn;exact(G false).2
   split at hn
   . cases hn;exact absurd rfl h0
   cases hn
 have hn:Nj n=some cs:=hn;unfold Nj at hn;split at hn
 . rename_i hb;obtain rfl:=Be hb;cases hn;exact(G _).1
 split at hn
 . cases hn;exact .pl [] n 0 (fun _=>undef) (fun j hj=>absurd hj (Ap _)) (fun j hj=>absurd hj (Ap _))
 cases hn
end Go.Proofs.YtgggiembljfnhaaGreatDoor
namespace Go.Proofs.YtgggiembljfnhaaGreatDoor
open Go Go.Av
def aCz:CW Tryz.f142:=⟨_,cX⟩
theorem aJx:Fi 142 aCz:=cM Tryz.func142 aCz
def aCw:CW Tryz.f113:=⟨_,cX⟩
theorem aJu:Fi 113 aCw:=cM Tryz.func113 aCw
def aCv:CW Tryz.f112:=⟨_,cX⟩
theorem aJt:Fi 112 aCv:=cM Tryz.func112 aCv
def W86:CW Tryz.f86:=⟨_,cX⟩
theorem bDb:Fi 86 W86:=cM Tryz.func86 W86
def W39:CW Tryz.f39:=⟨_,cX⟩
theorem bCn:Fi 39 W39:=cM Tryz.func39 W39
def W40:CW Tryz.f40:=⟨_,cX⟩
theorem bCo:Fi 40 W40:=cM Tryz.func40 W40
def W65:CW Tryz.f65:=⟨_,cX⟩
theorem bIc:Fi 65 W65:=cM Tryz.func65 W65
attribute [local congr] aT aI aL aH aX aQ aM aF aY
attribute [local irreducible] FC bS eF
def iC (l:List Int):List AV:=l.map (AV.int .i64)
theorem cD (l:List Int):(iC l).length=l.length:=Af _
theorem eJ {l:List Int} {i:Nat} (h:i<l.length):(iC l).getD i aD=.int .i64 (l.getD i 0):=by simp[iC,h]
theorem jI (l:List Int):bO (iC l)=true:=by
 induction l with
 |nil=>rfl
 |cons x l ih=>simp only[iC,Cb,bO,AV.free,Co];exact ih
theorem qY {l:List Int} {i:Nat} (h:i<l.length):l.getD i 0∈l:=by simp[h]
def iM (l:List Int):Nat:=l.foldl (fun o x=>Nat.gcd o x.natAbs) 0
theorem jk {l:List Int} {i:Nat} (h:i<l.length):iM (l.take (i+1))=Nat.gcd (iM (l.take i)) (l.getD i 0).natAbs:=by unfold iM;rw[An,Jj];simp[h]
theorem HH {B:Nat}:∀{l:List Int} {o:Nat},(∀x∈l,x.natAbs<=B)->o<=B->l.foldl (fun o x=>Nat.gcd o x.natAbs) o<=B
 |[],o,_,h=>h
 |x::l,o,hl,h=>HH (l:=l) (fun y hy=>hl y (Au _ hy)) (by
   have hx:=hl x Ar
   rcases Hq o with h0|h0
   . subst h0;show Nat.gcd 0 _<=B;rw[Gy];exact hx
   exact Cd (Nat.gcd_le_left _ h0) h)
theorem aFb {id:Nat} {l:List Int} {o:Bool} (h4:l.length=4) (hl:∀x∈l,x.natAbs<=64) {H:aA} (hg:H.get id=some (.cells (iC l) o)):
 Sg 142 [.sl id 1 0 4 4] H (.ret (.int .i64 (iM l:Nat))) H:=by
 refine gH aJx (Ai rfl) ?_ (by rfl);unfold aCz;dsimp only;refine bQ ?_;refine Tz ?_;refine fF ?_;refine Tz ?_;refine bR ?_;refine aN fun K hK=>?_;refine bQ ?_;refine Ty ?_;refine bR ?_;refine cV [3] (fun i vs H'=>H'=H/\vs=[.int .i64 (iM (l.take i):Nat)]) 4 (by omega) (by decide) ?_ ?_ ?_ ?_ ?_
 . exact zq
 . exact zq
 . exact⟨rfl,by simp only[sm,zB,seval];rfl⟩
 . rintro i f H1 hi hk e1 ⟨rfl,hv⟩;simp only[zM] at hv;have gQ:i<l.length:=by omega
   have hx:=hl _ (qY gQ);have hd:=eJ gQ;have hlen:i+1<=(iC l).length:=(by rw[cD];omega);have JI:iM (l.take i)<=64:=HH (fun x hx=>hl x (By hx)) (by decide);rw[jk gQ];generalize l.getD i 0=x at *;generalize iM (l.take i)=o1 at *;refine aJ ?_;refine bQ ?_;simp only[↓zP,zJ,seval,e1,hk 7 rfl,aB,hi,hg,hlen,hd];refine bR ?_;have xi:IntKind.i64.wrap (0 -x)= -x:=wI (by omega);have pr:(if -x>x then -x else x)=(x.natAbs:Int):=Za4;refine bQ ?_;simp only[↓zP,zG,seval,xi,pr];refine bR ?_;refine aJ (iP [3,6] (fun m vs H'=>H'=H1/\∃a b:Nat,vs=[.int .i64 (a:Nat),.int .i64 (b:Nat)]/\a<=64/\b<=64/\m=b/\Nat.gcd a b=Nat.gcd o1 x.natAbs) x.natAbs (by rfl) ?_ ?_)
   . exact⟨rfl,o1,x.natAbs,by simp only[sm,zB,seval,hv],JI,hx,rfl,rfl⟩
   rintro m f2 H2 eP ⟨rfl,a,b,sY,ha,hb,rfl,hgc⟩;simp only[zM] at sY;obtain⟨v3,v6⟩:=sY;by_cases h0:m=0
   . subst h0;simp only[↓zP,zJ,seval,v3,v6];exact⟨trivial,by rw[<-hgc,Nat.gcd_zero_right]⟩
   have hz:((m:Int) != 0)=true:=(by rw[Dd];omega);have Pu:¬((m:Int)=0):=(by omega);have ht:Int.tmod (a:Int) (m:Int)=((a%m:Nat):Int):=rfl;refine bQ ?_;simp only[↓zP,zG,seval,v6,hz];refine bR ?_;refine aJ ?_;refine Dz ?_;simp only[↓zP,zJ,seval,zD,v3,v6,Pu,ht];have fJ:=Di a (show 0<m by omega);exact⟨a%m,fJ,m,a%m,rfl,hb,by omega,rfl,by rw[<-hgc,Hz a m,Nat.gcd_rec m a,Hz]⟩
 rintro f H1 hk ⟨rfl,hv⟩;simp only[zM] at hv;refine Tx ?_;apply hK;clear hK K;simp only[↓zP,zG,seval,hv];refine Rx ?_;rw[Aq (by omega)];exact ZaR
theorem gU (b:Bool) (A B:Prop):jP aD b A B=B:=rfl
def lC (l:List Int):Prop:=∀x∈l,-2^63<=x/\x<2^63
def ID (l:List Int):Bool:=l.all fun x=>decide (-64<=x/\x<=64)
theorem ao {l:List Int} (h:ID l=true):∀x∈l,x.natAbs<=64:=fun x hx=>by have :=Cu (Aw.1 h x hx);omega
theorem aGd {l:List Int} (h4:l.length=4) (hl:lC l) (H:aA):Sg 112 [.agg (iC l)] H (.ret (.bool (ID l))) H:=by
 refine So aJt ZaY ?_ H;unfold aCv;dsimp only;have hlen:(iC l).length=4:=by rw[cD,h4]
 refine bQ ?_;refine Ty ?_;refine bR ?_;refine aN fun K hK=>?_;refine bQ ?_;simp only[↓zP,zJ,seval,oL hlen];refine bR ?_;refine jL [] (fun i vs H'=>∀x∈l.take i,-64<=x/\x<=64) 4 (by omega) rfl (by decide) ?_ ?_ ?_ ?_
 . exact zq
 . intro x hx;simp at hx
 . rintro i f H1 hi hk e1 bU;have gQ:i<l.length:=by omega
   have hm:=qY gQ;have hx:=hl _ hm;have hd:=eJ gQ;have f5:f 5=.agg (iC l):=hk 5 rfl;have hle:i+1<=(iC l).length:=by rw[hlen];omega
   have gV:(-64<=l.getD i 0/\l.getD i 0<=64)->∀x∈l.take (i+1),-64<=x/\x<=64:=fun h x hx=>by
    exact ZaZ
   have fS:¬(-64<=l.getD i 0/\l.getD i 0<=64)->ID l=false:=fun h=>by unfold ID;rw[El];exact⟨_,hm,by rw[Ag h];decide⟩
   generalize l.getD i 0=x at *;obtain⟨y,hy⟩:∃y,IntKind.i64.wrap (0 -x)=y:=⟨_,rfl⟩
   have hyx:(x= -2^63/\y=x)\/(x≠-2^63/\y= -x):=by
    by_cases c:x= -2^63
    . refine .inl ⟨c,?_⟩;subst c;rw[<-hy];rfl
    refine .inr ⟨c,?_⟩;rw[<-hy,wrap_i64 (by omega) (by omega)];omega
   refine aJ ?_;refine bQ ?_;simp only[↓zP,zJ,seval,e1,f5,aB,hi,hle,hd];refine bR ?_;obtain⟨m,WQ⟩:∃m,(if y>x then y else x)=m:=⟨_,rfl⟩;have hmm:m=x/\y<=x\/m=y/\x<y:=(by rw[<-WQ];split<;>omega);refine aN fun K2 bW=>?_;by_cases c1:m>64
   . have d1:=Aj c1;simp only[↓zP,zG,seval,hy,WQ,d1,gU];apply bW;clear bW K2;refine Tz ?_;exact ZaF
   have d1:=Ag c1;by_cases c2:x=y
   . have d2:(x==y)=true:=(by rw[Cf];exact c2);by_cases c3:x=0
     . have d3:(x != 0)=false:=(by rw[c3];rfl);simp only[↓zP,zG,seval,hy,WQ,d1,d2,d3];apply bW;clear bW K2;refine Tz ?_;exact gV (by omega)
     have d3:(x != 0)=true:=(by rw[Dd];exact c3);simp only[↓zP,zG,seval,hy,WQ,d1,d2,d3];apply bW;clear bW K2;refine Tz ?_;exact ZaF
   have d2:(x==y)=false:=(by rw[Bq];exact c2);simp only[↓zP,zG,seval,hy,WQ,d1,d2];apply bW;clear bW K2;refine Tz ?_;exact gV (by omega)
 rintro f H1 hk bU;exact Za8
def DW (l:List Int):Int:=match l.find? (fun x=>x != 0) with
 |some x=>if x<0 then -(iM l:Int) else iM l
 |none=>iM l
def rQ (l:List Int):Option (List Int):=if iM l=0 then none else some (l.map fun x=>x.tdiv (DW l))
theorem cp (l:List Int):(DW l).natAbs=iM l:=by
 unfold DW;split
 . split<;>omega
 omega
theorem Qp {l:List Int} (h:∀x∈l,x=0):iM l=0:=by
 unfold iM
 induction l with
 |nil=>rfl
 |cons x l ih=>rw[Ho,h x Ar];exact ih fun y hy=>h y (Au _ hy)
theorem Qh:∀{l:List Int} {i:Nat},(∀x∈l.take i,x=0)->i<l.length->l.getD i 0≠0->l.find? (fun x=>x != 0)=some (l.getD i 0)
 |[],_,_,hi,_=>absurd hi (Ap _)
 |x::l,0,_,_,hx=>by have hx:x≠0:=hx;rw[Jp (by simpa using hx)];rfl
 |x::l,i+1,h,hi,hx=>by have h0:x=0:=h x (by simp);rw[List.find?_cons_of_neg (by simp[h0])];exact Qh (l:=l) (fun y hy=>h y (by simp[hy])) (by simpa using hi) hx
theorem Yj {H:aA} {id n sz off:Nat} {cs:List AV} {o:Bool} (hg:H.get id=some (.cells cs o)) (hn:0<n) (hl:off+n*sz<=cs.length):mM H n sz (.ref id off) none none none=some (.sl id sz off n n):=by unfold mM;simp[aA.eS,hg,hl];omega
theorem aEt {l:List Int} (h4:l.length=4) (hl:∀x∈l,x.natAbs<=64) (H:aA):
 Sg 113 [.agg (iC l)] H (.ret (.iA [.agg (iC ((rQ l).getD [0,0,0,0])),.bool (rQ l).isSome])) H:=by
 refine Sp aJu ZaY (by simp only[AV.free,bO,jI];rfl) ?_ H;unfold aCw;dsimp only;have hlen:(iC l).length=4:=by rw[cD,h4]
 refine bQ ?_;refine Ty ?_;refine bR ?_;generalize hX:((aA.mk 0 .nil).alloc _).alloc _=HA;have g0:HA.get 0=some (.cells (iC l) false):=by subst hX;simp only[zI,seval]
 have g1:HA.get 1=some (.cells [.int .i64 0,.int .i64 0,.int .i64 0,.int .i64 0] false):=by subst hX;simp only[zI,seval]
 clear hX;refine bV fun f hf=>?_;have f1:f 1=.ref 0 0:=by subst hf;simp only[zB,seval]
 have f2:f 2=.ref 1 0:=by subst hf;simp only[zB,seval]
 clear hf;refine bQ ?_;simp only[↓zP,zG,seval,f1,eB,Yj g0 (show 0<4 by decide) (show 0+4*1<=(iC l).length by omega)];refine bY (aFb h4 hl g0) ?_;refine Tz ?_;refine fF ?_;by_cases hz:iM l=0
 . have hd:((iM l:Int)==0)=true:=by rw[Cf];omega
   simp only[↓zP,zJ,seval,hd,f2,g1];refine⟨rfl,_,by simp only[↓zP,zR,seval,f2];rfl,?_⟩;have :rQ l=none:=(by unfold rQ;rw[if_pos hz]);rw[this];rfl
 have hd:((iM l:Int)==0)=false:=by rw[Bq];omega
 simp only[↓zP,zG,seval,hd];refine bR ?_;have hsg:=cp l;have bFh:iM l<=64:=HH hl (by decide);refine aN fun K hK=>?_
 have key:∀f:dE,f 1=.ref 0 0->f 2=.ref 1 0->f 4=.int .i64 (DW l)->K f [] HA:=by
  intro f f1 f2 f4;apply hK;clear hK K;refine aN fun K hK=>?_;refine bQ ?_;refine Tz ?_;refine bR ?_;refine jL [] (fun i vs H'=>H'.get 0=some (.cells (iC ((l.take i).map (fun x=>x.tdiv (DW l))++l.drop i)) false)/\H'.get 1=some (.cells [.int .i64 0,.int .i64 0,.int .i64 0,.int .i64 0] false)) 4 (by omega) rfl (by decide) ?_ ?_ ?_ ?_
  . exact zq
  . exact⟨g0,g1⟩
  . rintro i f3 H1 hi hk e1 ⟨m0,m1⟩;have gQ:i<l.length:=by omega
    have f31:f3 1=.ref 0 0:=(by rw[hk 1 rfl];simp only[zB,seval];exact f1);have f34:f3 4=.int .i64 (DW l):=(by rw[hk 4 rfl];simp only[zB,seval];exact f4);have hx:=hl _ (qY gQ);have lE:¬(DW l=0):=(by omega);have FB:((l.take i).map (fun x=>x.tdiv (DW l))++l.drop i).length=4:=by simp;omega
    have hd:(iC ((l.take i).map (fun x=>x.tdiv (DW l))++l.drop i)).getD i aD=.int .i64 (l.getD i 0):=by rw[eJ (by omega),Bg,Fx Zah];simp[Nat.min_eq_left (Nat.le_of_lt gQ)]
    have hle:i+1<=(iC ((l.take i).map (fun x=>x.tdiv (DW l))++l.drop i)).length:=by rw[cD,FB];omega
    have hw:IntKind.i64.wrap ((l.getD i 0).tdiv (DW l))=(l.getD i 0).tdiv (DW l):=by have :=Int.natAbs_tdiv_le_natAbs (l.getD i 0) (DW l);exact wrap_i64 (by omega) (by omega)
    have hsp:fW (iC ((l.take i).map (fun x=>x.tdiv (DW l))++l.drop i)) i [.int .i64 ((l.getD i 0).tdiv (DW l))]=iC ((l.take (i+1)).map (fun x=>x.tdiv (DW l))++l.drop (i+1)):=by have hm:((l.take i).map (fun x=>x.tdiv (DW l))).length=i:=Zah;have h0:l.getD i 0=l[i]:=(by simp[gQ]);unfold fW iC;rw[An,Ad gQ,h0];simp only[Ct,Gr,List.map_take,List.map_drop,Fu,Cb,Fo,As,Bm];rw[Ce Zah,Hj,Gs Zah,Aq Zah];simp;omega
    refine aJ ?_;refine bQ ?_;simp only[↓zP,zG,seval,e1];refine bR ?_;simp only[↓zP,zJ,seval,f31,f34,aB,hi,m0,m1,hle,hd,lE,hw];exact⟨Bn (fun x=>some (fB.cells x false)) hsp,trivial⟩
  rintro f3 H1 hk ⟨m0,m1⟩;have f31:f3 1=.ref 0 0:=by rw[hk 1 rfl];simp only[zB,seval];exact f1
  have f32:f3 2=.ref 1 0:=by rw[hk 2 rfl];simp only[zB,seval];exact f2
  refine Tx ?_;apply hK;clear hK K
  have hq:(iC (List.map (fun x=>x.tdiv (DW l)) (List.take 4 l)++List.drop 4 l))=iC (l.map fun x=>x.tdiv (DW l)):=by rw[Aq (by omega),Ca (by omega),Ch]
  have Nt:(iC (l.map fun x=>x.tdiv (DW l))).length=4:=by rw[cD,Af,h4]
  simp only[↓zP,zJ,seval,f31,f32,m0,m1,hq,oL Nt];refine⟨rfl,_,by simp only[↓zP,zR,seval,f32,oL Nt];rfl,?_⟩;have :rQ l=some (l.map fun x=>x.tdiv (DW l)):=by unfold rQ;rw[if_neg hz]
  rw[this];rfl
 refine bQ ?_;simp only[↓zP,zJ,seval,f1,g0,oL hlen];refine bR ?_;refine jL [4] (fun i vs H'=>H'=HA/\vs=[.int .i64 (iM l:Nat)]/\∀x∈l.take i,x=0) 4 (by omega) rfl (by decide) ?_ ?_ ?_ ?_
 . exact zq
 . exact⟨rfl,by simp only[sm,zB,seval],fun x hx=>by simp at hx⟩
 . rintro i f3 H1 hi hk e1 ⟨rfl,hv,bU⟩;simp only[zM] at hv;have gQ:i<l.length:=by omega
   have f31:f3 1=.ref 0 0:=(by rw[hk 1 rfl];simp only[zB,seval];exact f1);have f32:f3 2=.ref 1 0:=(by rw[hk 2 rfl];simp only[zB,seval];exact f2);have f313:f3 13=.agg (iC l):=hk 13 rfl;have hd:=eJ gQ;have hle:i+1<=(iC l).length:=by rw[hlen];omega
   have gV:l.getD i 0=0->∀x∈l.take (i+1),x=0:=fun h x hx=>by
    exact ZaZ
   have hfd:=Qh bU gQ
   have bGo:∀h:l.getD i 0≠0,DW l=if l.getD i 0<0 then -(iM l:Int) else iM l:=fun h=>by unfold DW;rw[hfd h]
   generalize l.getD i 0=x at *;refine aJ ?_;refine bQ ?_;simp only[↓zP,zJ,seval,e1,f313,aB,hi,hle,hd];refine bR ?_;refine aN fun K2 bW=>?_;by_cases c1:x=0
   . have d1:(x != 0)=false:=(by rw[c1];rfl);simp only[↓zP,zG,seval,d1];apply bW;clear bW K2;simp only[↓zP,zJ,seval,hv];exact⟨trivial,trivial,gV c1⟩
   have d1:(x != 0)=true:=(by rw[Dd];exact c1);have hsx:=bGo c1;simp only[↓zP,zG,seval,d1];apply bW;clear bW K2;by_cases c2:x<0
   . have d2:=Aj c2;have hw:IntKind.i64.wrap (0 -(iM l:Int))= -(iM l:Int):=wI (by omega);rw[if_pos c2] at hsx;simp only[↓zP,zG,seval,d2,hv,hw];exact key _ (by simp only[zB,seval];exact f31) (by simp only[zB,seval];exact f32) (by simp only[zB,seval];rw[hsx])
   have d2:=Ag c2;rw[if_neg c2] at hsx;simp only[↓zP,zG,seval,d2];exact key _ (by simp only[zB,seval];exact f31) (by simp only[zB,seval];exact f32) (by simp only[zB,seval];rw[hsx];exact hv)
 rintro f3 H1 hk ⟨rfl,hv,bU⟩;simp only[zM] at hv;refine absurd ?_ hz;have h0:∀x∈l,x=0:=fun x hx=>bU x (by rw[Aq (by omega)];exact hx);exact Qp h0
def qN (l:List Int):Bool:=ID l&&(rQ l==some l)
theorem sJ:∀{n:Nat} {l m:List Int},l.length=n->m.length=n->cL (List.replicate n Sk.i) (iC l) (iC m)=some (decide (l=m))
 |0,[],[],_,_=>rfl
 |n+1,x::l,y::m,h,h'=>by have ih:=sJ (n:=n) (l:=l) (m:=m) Zbi (by simpa using h');simp only[Cb,iC,Dx,cL,if_true] at ih ⊢;rw[ih];simp only[Bu,Ae,Ip];rw[Ci];simp
theorem om {l:List Int} (h4:l.length=4) (hl:lC l) (H:aA):Sg 86 [.agg (iC l)] H (.ret (.bool (qN l))) H:=by
 refine So bDb ZaY ?_ H;unfold W86;dsimp only;have hlen:(iC l).length=4:=by rw[cD,h4]
 have lo:=aGd h4 hl;refine bQ ?_;refine Ty ?_;refine bR ?_;refine aN fun K hK=>?_;simp only[↓zP,zJ,seval,oL hlen];refine bY (lo _) ?_
 cases hb:ID l with
 |false=>refine Ty ?_;refine Rx ?_;unfold qN;rw[hb];rfl
 |true=>
  refine Ty ?_;apply hK;clear hK K;have hq:=aEt h4 (ao hb)
  have Nt:(iC ((rQ l).getD [0,0,0,0])).length=4:=by
   rw[cD];unfold rQ;split
   . rfl
   simp[h4]
  refine bQ ?_;simp only[↓zP,zJ,seval,oL hlen];refine bY (hq _) ?_;simp only[↓zP,zJ,seval,oL Nt];refine bR ?_;have Zh:cL [.i,.i,.i,.i] (iC ((rQ l).getD [0,0,0,0])) (iC l)=some (decide ((rQ l).getD [0,0,0,0]=l)):=sJ (n:=4) (by rw[<-cD,Nt]) h4;have hv:qN l=(rQ l==some l):=by unfold qN;rw[hb];rfl
  rw[hv]
  cases hdq:rQ l with
  |none=>rw[hdq] at Nt;simp only[↓zP,zG,seval,Cj];refine Rx ?_;rfl
  |some d=>rw[hdq] at Nt Zh;simp only[↓zP,zJ,seval,Bc,Bi];simp only[Bi] at Zh Nt;simp only[zJ,seval,oL Nt,oL hlen,Zh];refine Rx ?_;simp only[nB];congr 2;rw[Ci];simp
def hU (p:List Int):Int:=if(p.take 3).all (fun x=>decide (x<140737488355328/\x> -140737488355328))&&qN (p.drop 3) then 0 else 1
theorem uO (l:List Int) (n:Nat):(iC l).take n=iC (l.take n):=List.map_take.symm
theorem tS (l:List Int) (n:Nat):(iC l).drop n=iC (l.drop n):=List.map_drop.symm
theorem VY {p:List Int} (h7:p.length=7) (hl:lC p) (H:aA):Sg 39 [.agg (iC p)] H (.ret (.int .i64 (hU p))) H:=by
 refine So bCn ZaY ?_ H;unfold W39;dsimp only;have hlen:(iC p).length=7:=by rw[cD,h7]
 have h3:(p.take 3).length=3:=by simp;omega
 have h34:(p.drop 3).length=4:=by simp;omega
 have hv:=om h34 (fun x hx=>hl x (Dt hx));refine bQ ?_;refine Ty ?_;refine bR ?_;refine aN fun K hK=>?_;refine bQ ?_;simp only[↓zP,zJ,seval,hlen,uO];refine bR ?_;generalize hX:(aA.mk 0 .nil).alloc _=HA;have g0:HA.get 0=some (.cells (iC p) false):=by subst hX;simp only[zI,seval]
 clear hX;refine jL [] (fun i vs H'=>H'=HA/\∀x∈(p.take 3).take i,x<140737488355328/\x> -140737488355328) 3 (by omega) rfl (by decide) ?_ ?_ ?_ ?_
 . exact zq
 . exact⟨rfl,fun x hx=>by simp at hx⟩
 . rintro i f H1 hi hk e1 ⟨rfl,bU⟩;have gQ:i<(p.take 3).length:=by omega
   have hm:=qY gQ;have hd:=eJ gQ;have f6:f 6=.agg (iC (p.take 3)):=hk 6 rfl;have hle:i+1<=(iC (p.take 3)).length:=by rw[cD];omega
   have gV:(fun x:Int=>x<140737488355328/\x> -140737488355328) ((p.take 3).getD i 0)->∀x∈(p.take 3).take (i+1),x<140737488355328/\x> -140737488355328:=fun h x hx=>by
    rw[An,Ao] at hx
    rcases hx with hx|hx
    . exact bU x hx
    rw[Ad gQ] at hx;simp only[Fu,Cc] at hx;rw[Bg,Ad gQ] at h;subst hx;exact h
   have fS:¬((p.take 3).getD i 0<140737488355328/\(p.take 3).getD i 0> -140737488355328)->hU p=1:=fun h=>by unfold hU;rw[if_neg];intro hh;rw[Al] at hh;exact h (Cu (Aw.1 hh.1 _ hm))
   generalize (p.take 3).getD i 0=x at *;refine aJ ?_;refine bQ ?_;simp only[↓zP,zJ,seval,e1,f6,aB,hi,hle,hd];refine bR ?_;refine aN fun K2 bW=>?_;by_cases c1:x≥140737488355328
   . have d1:=Aj c1;simp only[↓zP,zG,seval,d1];apply bW;clear bW K2;refine Tz ?_;exact ZaF
   have d1:=Ag c1;by_cases c2:x<=-140737488355328
   . have d2:=Aj c2;simp only[↓zP,zG,seval,d1,d2];apply bW;clear bW K2;refine Tz ?_;exact ZaF
   have d2:=Ag c2;simp only[↓zP,zG,seval,d1,d2];apply bW;clear bW K2;refine Tz ?_;exact⟨trivial,gV ⟨by omega,by omega⟩⟩
 rintro f H1 hk ⟨rfl,bU⟩;rw[Aq (by omega)] at bU;have f1:f 1=.ref 0 0:=hk 1 rfl
 have hp:hU p=if qN (p.drop 3) then 0 else 1:=by unfold hU;rw[Aw.2 fun x hx=>Aj (bU x hx)];rfl
 refine Tx ?_;apply hK;clear hK K;refine aN fun K hK=>?_;have h47:3+4<=(iC p).length:=by omega
 have pT:((iC p).drop 3).take 4=iC (p.drop 3):=by rw[tS,uO,Aq (by omega)]
 simp only[↓zP,zJ,seval,f1,g0,h47,pT];refine bY (hv _) ?_
 cases hb:qN (p.drop 3) with
 |true=>rw[hb] at hp;refine Ty ?_;apply hK;clear hK K;refine Tz ?_;refine Rx ?_;rw[hp];rfl
 |false=>rw[hb] at hp;refine Ty ?_;refine Rx ?_;rw[hp];rfl
def aMo:CW Tryz.f152:=⟨_,cX⟩
theorem aXs:Fi 152 aMo:=cM Tryz.func152 aMo
def aMp:CW Tryz.f153:=⟨_,cX⟩
theorem aXt:Fi 153 aMp:=cM Tryz.func153 aMp
def aLt:CW Tryz.f120:=⟨_,cX⟩
theorem aWw:Fi 120 aLt:=cM Tryz.func120 aLt
def aLu:CW Tryz.f121:=⟨_,vF⟩
theorem aWx:Fi 121 aLu:=cM Tryz.func121 aLu
def aLi:CW Tryz.f100:=⟨_,cX⟩
theorem aWk:Fi 100 aLi:=cM Tryz.func100 aLi
def W62:CW Tryz.f62:=⟨_,cX⟩
theorem bIa:Fi 62 W62:=cM Tryz.func62 W62
def W42:CW Tryz.f42:=⟨_,cX⟩
theorem bHq:Fi 42 W42:=cM Tryz.func42 W42
def W43:CW Tryz.f43:=⟨_,cX⟩
theorem bHr:Fi 43 W43:=cM Tryz.func43 W43
def W83:CW Tryz.f83:=⟨_,cX⟩
theorem bIk:Fi 83 W83:=cM Tryz.func83 W83
def W84:CW Tryz.f84:=⟨_,cX⟩
theorem bIl:Fi 84 W84:=cM Tryz.func84 W84
def W35:CW Tryz.f35:=⟨_,vF⟩
theorem bHl:Fi 35 W35:=cM Tryz.func35 W35
end Go.Proofs.YtgggiembljfnhaaGreatDoor
