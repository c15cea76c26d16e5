/-
  Part of the proof of statement 11
-/
import Derived.Test.YtgggiembljfnhaaGreatDoorA06
import Derived.Test.YtgggiembljfnhaaGreatDoorA05
import Derived.Test.YtgggiembljfnhaaGreatDoorA03
import Derived.Below
import Derived.Lib.Join
import Derived.ProofKit
import Derived.OpenShut
import Derived.Deep.Slices
import Derived.Test.YtgggiembljfnhaaGreatDoorProg
import Derived.KernelRfl
import Derived.Test.YtgggiembljfnhaaGreatDoorRows
import Derived.LaidMore
import Derived.LaidLaws
import Derived.MakeChecks
import Derived.Lay
import Derived.ChangeMaps5
import Derived.Deep.DeepHandedRow
set_option linter.unusedVariables false
set_option linter.unusedSimpArgs false
set_option linter.unusedSectionVars false
set_option linter.defProp false
set_option maxRecDepth 100000
set_option maxHeartbeats 16000000
namespace Go.Av
open Go
attribute [local congr] aI
section
section
variable {P:Program} {g:bG} {n:Nat}
def aEj (n c ix a b:Nat) (cs:List Nat) (ts B:cG):Bool:=
 Nat.blt c n&&Nat.blt ix n&&Nat.blt a n&&Nat.blt b n&& !Nat.beq a ix&& !Nat.beq b ix&& !Nat.beq b a&& !sL ix ts.wr&& !sL ix B.wr&&B.rC&& !sL a cs&& !sL b cs&& !sL ix cs&&cs.all (fun t=> !sL t ts.wr)
def Qg (ix a b:Nat) (ts B:cG):List Nat:=a::b::ix::(ts.wr++B.wr)
theorem ZA {id c ix a b:Nat} {op:BinOp} {dz:Int} {ts B:cG} {f:dE} {ds:List gM} {H:aA} {Q:FQ} (cs:List Nat) (J:Nat->List AV->aA->Prop) (val:Nat->Int) (N:Nat)
 (hs:aEj n c ix a b cs ts B=true) (fL:∀i,i<N->pU op .i64 (val i) .i64 dz=some (.int .i64 (val (i+1))))
 (h1:f ix=.int .i64 (val 0)) (h0:J 0 (cs.map f) H)
 (test:∀(i:Nat) (f':dE) (H':aA),i<=N->jR (Qg ix a b ts B) f f'->f' ix=.int .i64 (val i)->J i (cs.map f') H'->FC P g n ts f' ds H' (iT (fun Qb tj GP=>tj=ds/\GP=H'/\Qb c=.bool (decide (i<N))) fun _ _ _ _=>False))
 (body:∀(i:Nat) (f':dE) (H':aA),i<N->jR (Qg ix a b ts B) f f'->f' ix=.int .i64 (val i)->J i (cs.map f') H'->FC P g n B f' ds H' (iT (fun Qb _ GP=>J (i+1) (cs.map Qb) GP) (dP id Q)))
 (done:∀(f':dE) (H':aA),jR (Qg ix a b ts B) f f'->J N (cs.map f') H'->Q .normal f' ds H'):
 FC P g n (.block id (.loop (.seq (.seq ts (.cond (.tmp c) .skip (.exit id))) (.seq B
  (.ops [⟨some a,.Sv (.tmp ix),none⟩,⟨some b,.bin op (.tmp a) (.const (.int .i64 dz)),none⟩,⟨some ix,.Sv (.tmp b),none⟩]))))) f ds H Q:=by
 simp only[aEj,Al,Cn,Gq,Ax] at hs;obtain⟨⟨⟨⟨⟨⟨⟨⟨⟨⟨⟨⟨⟨s1,s2⟩,s3⟩,s4⟩,s5⟩,s6⟩,s7⟩,t1⟩,b1⟩,b2⟩,c1⟩,c2⟩,c3⟩,c4⟩:=hs;have ne:∀{a b:Nat},Nat.beq a b=false->a≠b:=fun h e=>by subst e;simp at h
 have bIe:∀d∈ts.wr,d∈Qg ix a b ts B:=fun d hd=>by simp[Qg,hd]
 have bId:∀d∈B.wr,d∈Qg ix a b ts B:=fun d hd=>by simp[Qg,hd]
 have kpU:∀{f':dE} {d:Nat} {v:AV},d∈Qg ix a b ts B->jR (Qg ix a b ts B) f f'->jR (Qg ix a b ts B) f (kD f' d v):=fun {f' d v} hd hk t ht=>by have cP:t≠d:=fun e=>rA.1 ht (by rw[e];exact hd);rw[oH _ _ cP];exact hk t ht
 refine aKn (id:=id) (c:=c) (fun i f' H'=>jR (Qg ix a b ts B) f f'/\f' ix=.int .i64 (val i)/\J i (cs.map f') H') N ⟨.YU,h1,h0⟩ ?_ ?_ ?_
 . rintro i f' H' hi ⟨hk,e1,hj⟩ K hK Q';refine jM (fun e f2 TX H2 hh=>?_) (GL (test i f' H' hi hk e1 hj));obtain⟨k1,k2,k3⟩:=hh
   cases e with
   |normal=>obtain⟨rfl,rfl,k4⟩:=k3;refine⟨rfl,rfl,hK _ k4 ⟨hk.trans (k1.sub bIe),by rw[k1 _ t1];exact e1,?_⟩⟩;have :cs.map f2=cs.map f':=Fl fun t ht=>k1 t (by simpa using c4 t ht);rw[this];exact hj
   |_=>exact k3.elim
 . rintro i f' H' hi ⟨hk,e1,hj⟩;refine jM (fun e f2 TX H2 hh=>?_) (GL (body i f' H' hi hk e1 hj));obtain⟨k1,k2,k3⟩:=hh
   cases e with
   |normal=>obtain rfl:=k2 b2;refine⟨rfl,?_⟩;have e2:f2 ix=.int .i64 (val i):=(by rw[k1 _ b1];exact e1);have eO:=hk.trans (k1.sub bId);rw[JQ,GN _ _ s3];simp only[dA,iV,e2,cF];rw[zC _ _ _ _ s4];simp only[dA,iV,wG,rG,fL i hi,Bx,cF];rw[GN _ _ s2];simp only[dA,iV,cF,vX,gE,rG];refine⟨trivial,kpU (by simp[Qg]) (kpU (by simp[Qg]) (kpU (by simp[Qg]) eO)),trivial,?_⟩;rw[IH c3,IH c2,IH c1];exact k3
   |_=>exact k3
 rintro f' H' ⟨hk,e1,hj⟩;exact done f' H' hk hj
theorem bP {id c ix a b:Nat} {ts B:cG} {f:dE} {ds:List gM} {H:aA} {Q:FQ} (cs:List Nat) (J:Nat->List AV->aA->Prop) (s N:Nat) (hsN:s<=N) (hN:N<2^63)
 (hs:aEj n c ix a b cs ts B=true) (h1:f ix=.int .i64 s) (h0:J s (cs.map f) H)
 (test:∀(i:Nat) (f':dE) (H':aA),s<=i->i<=N->jR (Qg ix a b ts B) f f'->f' ix=.int .i64 i->J i (cs.map f') H'->FC P g n ts f' ds H' (iT (fun Qb tj GP=>tj=ds/\GP=H'/\Qb c=.bool (decide (i<N))) fun _ _ _ _=>False))
 (body:∀(i:Nat) (f':dE) (H':aA),s<=i->i<N->jR (Qg ix a b ts B) f f'->f' ix=.int .i64 i->J i (cs.map f') H'->FC P g n B f' ds H' (iT (fun Qb _ GP=>J (i+1) (cs.map Qb) GP) (dP id Q)))
 (done:∀(f':dE) (H':aA),jR (Qg ix a b ts B) f f'->J N (cs.map f') H'->Q .normal f' ds H'):
 FC P g n (.block id (.loop (.seq (.seq ts (.cond (.tmp c) .skip (.exit id))) (.seq B
  (.ops [⟨some a,.Sv (.tmp ix),none⟩,⟨some b,.bin .add (.tmp a) (.const (.int .i64 1)),none⟩,⟨some ix,.Sv (.tmp b),none⟩]))))) f ds H Q:=by
 refine ZA cs (fun i=>J (s+i)) (fun i=>((s+i:Nat):Int)) (N -s) hs (fun i hi=>?_) (by simpa using h1) (by simpa using h0) (fun i f' H' hi hk e1 hj=>?_) (fun i f' H' hi hk e1 hj=>?_) (fun f' H' hk hj=>?_)
 . simp only[pU,if_true];rw[wrap_i64 (by omega) (by omega)];simp only[Ae,AV.int.injEq,Jx];omega
 . have h:=test (s+i) f' H' (by omega) (by omega) hk e1 hj
   rwa [show decide (s+i<N)=decide (i<N -s) from by rw[Bs];omega] at h
 . have h:=body (s+i) f' H' (by omega) (by omega) hk e1 hj
   rwa [Br] at h
 have :s+(N -s)=N:=by omega
 simp only[this] at hj;exact done f' H' hk hj
theorem Yz {id c ix a b:Nat} {ts B:cG} {f:dE} {ds:List gM} {H:aA} {Q:FQ} (cs:List Nat) (J:Nat->List AV->aA->Prop) (N:Nat) (hN:N<2^63)
 (hs:aEj n c ix a b cs ts B=true) (h1:f ix=.int .i64 ((N:Int) -1)) (h0:J N (cs.map f) H)
 (test:∀(i:Nat) (f':dE) (H':aA),i<=N->jR (Qg ix a b ts B) f f'->f' ix=.int .i64 ((i:Int) -1)->J i (cs.map f') H'->FC P g n ts f' ds H' (iT (fun Qb tj GP=>tj=ds/\GP=H'/\Qb c=.bool (decide (0<i))) fun _ _ _ _=>False))
 (body:∀(i:Nat) (f':dE) (H':aA),i<N->jR (Qg ix a b ts B) f f'->f' ix=.int .i64 i->J (i+1) (cs.map f') H'->FC P g n B f' ds H' (iT (fun Qb _ GP=>J i (cs.map Qb) GP) (dP id Q)))
 (done:∀(f':dE) (H':aA),jR (Qg ix a b ts B) f f'->J 0 (cs.map f') H'->Q .normal f' ds H'):
 FC P g n (.block id (.loop (.seq (.seq ts (.cond (.tmp c) .skip (.exit id))) (.seq B
  (.ops [⟨some a,.Sv (.tmp ix),none⟩,⟨some b,.bin .sub (.tmp a) (.const (.int .i64 1)),none⟩,⟨some ix,.Sv (.tmp b),none⟩]))))) f ds H Q:=by
 refine ZA cs (fun i=>J (N -i)) (fun i=>((N -i:Nat):Int) -1) N hs (fun i hi=>?_) (by simpa using h1) (by simpa using h0) (fun i f' H' hi hk e1 hj=>?_) (fun i f' H' hi hk e1 hj=>?_) (fun f' H' hk hj=>?_)
 . simp only[pU,if_true];rw[wrap_i64 (by omega) (by omega)];simp only[Ae,AV.int.injEq,Jx];omega
 . have h:=test (N -i) f' H' (by omega) hk e1 hj
   rwa [show decide (0<N -i)=decide (i<N) from by rw[Bs];omega] at h
 . have e:N -i=(N -(i+1))+1:=by omega
   have e1':f' ix=.int .i64 ((N -(i+1):Nat):Int):=(by rw[e1];congr 1;omega);have FE:J ((N -(i+1))+1) (cs.map f') H':=(by rw[<-e];exact hj);exact body (N -(i+1)) f' H' (by omega) hk e1' FE
 simp only[Nat.sub_self] at hj;exact done f' H' hk hj
end
end
theorem JH {k:IntKind} (hs:k.signed=false) (x:Int):k.wrap x=x%2^k.bits:=by simp[IntKind.wrap,hs]
end Go.Av
namespace Go.aP
section
variable {p:Nat->V} {N:Nat} {n:V} {d:Int}
instance:DecidableEq V:=fun a b=>match a,b with
 |⟨x,y,z⟩,⟨x',y',z'⟩=>if h:x=x'/\y=y'/\z=z' then .isTrue (by obtain⟨rfl,rfl,rfl⟩:=h;rfl) else .isFalse (fun e=>h (by cases e;exact⟨rfl,rfl,rfl⟩))
def eZ (p:Nat->V) (i j k:Nat):V×Int:=(gK (aZ (vec p i j) (vec p i k)),dot (gK (aZ (vec p i j) (vec p i k))) (p i))
def iY (p:Nat->V) (i j k:Nat):List (V×Int):=
 if(eZ p i j k).1=V0 then [] else [eZ p i j k,(neg (eZ p i j k).1,-(eZ p i j k).2)]
theorem RP:gK V0=V0:=by simp[gK,V0]
theorem xW {i j k:Nat} (hi:i<N) (hj:j<N) (hk:k<N) {q:V×Int} (h:q∈iY p i j k) (le:∀k,k<N->dot q.1 (p k)<=q.2) (lt:∃k,k<N/\dot q.1 (p k)<q.2):pP p N q.1 q.2:=by
 unfold iY at h;split at h
 . cases h
 rename_i hz;have hc:aZ (vec p i j) (vec p i k)≠V0:=fun e=>hz (by rw[eZ,e,RP]);simp only[Am,Bg,Dd] at h
 rcases h with rfl|rfl
 . exact vU.isF (a:=i) (b:=j) (c:=k) ⟨hc,.inl rfl⟩ hi hj hk le lt rfl
 refine vU.isF (a:=i) (b:=j) (c:=k) ⟨hc,.inr rfl⟩ hi hj hk le lt ?_;simp only[eZ];rw[pA]
theorem gC (F:pP p N n d):∃i j k,k<j/\j<i/\i<N/\(n,d)∈iY p i j k:=by
 obtain⟨i,j,k,h1,h2,h3,hc,hd⟩:=F.down;refine⟨i,j,k,h1,h2,h3,?_⟩;have hz:¬(eZ p i j k).1=V0:=br hc.1;unfold iY;rw[if_neg hz]
 rcases hc.2 with e|e
 . rw[hd,e];exact Ar
 refine Aw _ (Am.2 (.inl ?_));rw[hd,e];simp only[eZ];rw[pA]
def rJ (i j k a b c:Nat):Prop:=a<i\/(a=i/\(b<j\/(b=j/\c<k)))
def rX (p:Nat->V) (N:Nat) (i j k:Nat) (K:List (V×Int)):Prop:=
 ∀a b c,c<b->b<a->a<N->rJ i j k a b c->∀q∈iY p a b c,pP p N q.1 q.2->q∈K
theorem rX.zero:rX p N 0 0 0 []:=fun a b c _ _ _ h=>by unfold rJ at h;omega
theorem rX.down {i j:Nat} {K:List (V×Int)} (h:rX p N i j j K):rX p N i (j+1) 0 K:=fun a b c h1 h2 h3 hb q hq F=>h a b c h1 h2 h3 (by unfold rJ at *;omega) q hq F
theorem rX.next {i:Nat} {K:List (V×Int)} (h:rX p N i i 0 K):rX p N (i+1) 0 0 K:=fun a b c h1 h2 h3 hb q hq F=>h a b c h1 h2 h3 (by unfold rJ at *;omega) q hq F
theorem rX.step {i j k:Nat} {K K':List (V×Int)} (h:rX p N i j k K) (hs:∀q∈K,q∈K') (hn:∀q∈iY p i j k,pP p N q.1 q.2->q∈K'):rX p N i j (k+1) K':=fun a b c h1 h2 h3 hb q hq F=>by
 by_cases e:a=i/\b=j/\c=k
 . obtain⟨rfl,rfl,rfl⟩:=e;exact hn q hq F
 exact hs q (h a b c h1 h2 h3 (by unfold rJ at *;omega) q hq F)
theorem rX.all {K:List (V×Int)} (h:rX p N N 0 0 K) (hK:∀q∈K,pP p N q.1 q.2) (q:V×Int):q∈K↔pP p N q.1 q.2:=by refine⟨hK q,fun F=>?_⟩;obtain⟨i,j,k,h1,h2,h3,hc⟩:=gC F;exact h i j k h1 h2 h3 (.inl h3) q hc F
theorem Oe (P:V×Int->Prop):∀L:List (V×Int),∃K:List (V×Int),K.Nodup/\∀q,q∈K↔q∈L/\P q
 |[]=>⟨[],Ka,fun q=>by simp⟩
 |x::L=>by
  obtain⟨K,h1,h2⟩:=Oe P L;by_cases hx:P x/\x∉K
  . refine⟨x::K,Js.2 ⟨hx.2,h1⟩,fun q=>?_⟩;simp only[Am,h2];constructor
    . rintro(rfl|⟨h3,h4⟩)
      . exact⟨.inl rfl,hx.1⟩
      exact⟨.inr h3,h4⟩
    rintro⟨rfl|h3,h4⟩
    . exact .inl rfl
    exact .inr ⟨h3,h4⟩
  refine⟨K,h1,fun q=>?_⟩;rw[h2];simp only[Am];constructor
  . rintro⟨h3,h4⟩;exact⟨.inr h3,h4⟩
  rintro⟨rfl|h3,h4⟩
  . exact(h2 q).1 (Cq fun hc=>hx ⟨h4,hc⟩)
  exact⟨h3,h4⟩
theorem vH {α:Type} (R:α->α->Prop) (tr:∀{a b c},R a b->R b c->R a c) (tot:∀a b,R a b\/R b a):∀l:List α,∃s:List α,s.Perm l/\s.Pairwise R
 |[]=>⟨[],List.Perm.refl _,List.Pairwise.nil⟩
 |x::l=>by
  obtain⟨s,h1,h2⟩:=vH R tr tot l
  have ins:∀s:List α,s.Pairwise R->∃t:List α,t.Perm (x::s)/\t.Pairwise R:=by
   intro s
   induction s with
   |nil=>exact fun _=>⟨[x],List.Perm.refl _,by simp⟩
   |cons y s ih=>
    intro hs;rw[Ck] at hs
    rcases tot x y with h|h
    . refine⟨x::y::s,List.Perm.refl _,Ck.2 ⟨fun z hz=>?_,Ck.2 hs⟩⟩
      rcases Am.1 hz with rfl|hz
      . exact h
      exact tr h (hs.1 z hz)
    obtain⟨t,t1,t2⟩:=ih hs.2;refine⟨y::t,(List.Perm.cons y t1).trans (List.Perm.swap x y s),Ck.2 ⟨fun z hz=>?_,t2⟩⟩
    rcases Am.1 (t1.mem_iff.1 hz) with rfl|hz
    . exact h
    exact hs.1 z hz
  obtain⟨t,t1,t2⟩:=ins s h2;exact⟨t,t1.trans (List.Perm.cons x h1),t2⟩
theorem oW.exists (p:Nat->V) (N:Nat):∃S,oW p N S:=by
 obtain⟨K,h1,h2⟩:=Oe (fun q=>pP p N q.1 q.2) ((List.range N).flatMap fun i=>(List.range N).flatMap fun j=>(List.range N).flatMap fun k=>iY p i j k)
 have hK:∀q,q∈K↔pP p N q.1 q.2:=fun q=>by rw[h2];refine⟨fun h=>h.2,fun F=>⟨?_,F⟩⟩;obtain⟨i,j,k,a1,a2,a3,hc⟩:=gC F;simp only[Fq,Au];exact⟨i,a3,j,by omega,k,by omega,hc⟩
 obtain⟨S,s1,s2⟩:=vH (fun a b:V×Int=>¬iU b.1 a.1) (fun {a b c} h h'=>by unfold iU at *;omega) (fun a b=>by unfold iU;omega) K;exact⟨S,oW.bg h1 hK s1 s2⟩
theorem tU {α:Type}:∀(l on:List α),l.Nodup->(∀x∈l,x∈on)->l.length<=on.length
 |[],_,_,_=>Az _
 |x::l,on,hn,h=>by
  obtain⟨s,t,rfl⟩:=List.append_of_mem (h x Ar);rw[Js] at hn
  have :=tU l (s++t) hn.2 fun y hy=>by
   have h1:=h y (Aw _ hy);simp only[Ap,Am] at h1 ⊢
   rcases h1 with h1|rfl|h1
   . exact .inl h1
   . exact absurd hy hn.1
   exact .inr h1
  simp only[Ba,Aq] at this ⊢;omega
theorem tK {α β:Type} (f:α->List β) (m:Nat) (hf:∀x,(f x).length<=m):∀l:List α,(l.flatMap f).length<=l.length*m
 |[]=>by simp
 |x::l=>by have h1:=tK f m hf l;have h2:=hf x;simp only[Fc,Ba,Aq,Cr,Ht];omega
theorem BV {K:List (V×Int)} (hn:K.Nodup) (hK:∀q∈K,pP p N q.1 q.2):K.length<=N*(N*(N*2)):=by
 have h1:=tU K ((List.range N).flatMap fun i=>(List.range N).flatMap fun j=>(List.range N).flatMap fun k=>iY p i j k) hn fun q hq=>by obtain⟨i,j,k,a1,a2,a3,hc⟩:=gC (hK q hq);simp only[Fq,Au];exact⟨i,a3,j,by omega,k,by omega,hc⟩
 have c:∀i j k,(iY p i j k).length<=2:=fun i j k=>by unfold iY;split<;>simp
 have h2:=tK (fun i=>(List.range N).flatMap fun j=>(List.range N).flatMap fun k=>iY p i j k) (N*(N*2)) (fun i=>by
  have :=tK (fun j=>(List.range N).flatMap fun k=>iY p i j k) (N*2) (fun j=>by
   have :=tK (fun k=>iY p i j k) 2 (fun k=>c i j k) (List.range N)
   rwa [Bv] at this) (List.range N)
  rwa [Bv] at this) (List.range N)
 rw[Bv] at h2;omega
theorem YF {js:List Nat} {n:Nat} (hn:js.Nodup) (hl:∀j∈js,j<n) (bV:∀j,j<n->j∈js):js.Perm (List.range n):=
 (List.perm_ext_iff_of_nodup hn List.nodup_range).2 fun a=>by rw[Au];exact⟨hl a,bV a⟩
theorem OL {α:Type} (l:List α) (d:α):(List.range l.length).map (fun j=>l.getD j d)=l:=by refine Fs (by simp) fun k h1 h2=>?_;simp[List.getD,h2]
end
end Go.aP
namespace Go.uG
def cQ:List Nat->Nat
 |[]=>0
 |d::l=>d+65536*cQ l
def DD (l:List Nat):Prop:=∀d∈l,d<65536
def uY:List Nat->List Nat
 |[]=>[]
 |d::l=>if uY l=[] then(if d=0 then [] else [d]) else d::uY l
def dg (n:Nat):List Nat:=if n=0 then [] else n%65536::dg (n / 65536)
termination_by n
decreasing_by omega
theorem uN:dg 0=[]:=by unfold dg;rfl
theorem KA {n:Nat} (h:n≠0):dg n=n%65536::dg (n / 65536):=by rw[dg,if_neg h]
theorem SE {n:Nat}:dg n=[]↔n=0:=by
 constructor
 . intro h;refine Cq fun hn=>?_;rw[KA hn] at h;cases h
 rintro rfl;exact uN
theorem yJ (n:Nat):cQ (dg n)=n:=by
 induction n using dg.induct with
 |case1=>rw[uN];rfl
 |case2 n h ih=>rw[KA h,cQ,ih];omega
theorem GK (n:Nat):DD (dg n):=by
 induction n using dg.induct with
 |case1=>rw[uN];intro d hd;cases hd
 |case2 n h ih=>
  rw[KA h];intro d hd
  rcases Am.1 hd with rfl|hd
  . omega
  exact ih d hd
theorem DD.tail {d:Nat} {l:List Nat} (h:DD (d::l)):DD l:=fun x hx=>h x (Aw _ hx)
theorem JF:∀{l:List Nat},DD l->uY l=dg (cQ l)
 |[],_=>by simp[uY,cQ,uN]
 |d::l,h=>by
  have ih:=JF h.tail;have hd:=h d Ar;simp only[uY,ih,SE,cQ];by_cases hv:cQ l=0
  . rw[if_pos hv,hv];by_cases hd0:d=0
    . subst hd0;simp[uN]
    rw[if_neg hd0,KA (by omega),show(d+65536*0)%65536=d by omega,show(d+65536*0) / 65536=0 by omega,uN]
  rw[if_neg hv,KA (n:=d+65536*cQ l) (by omega),show(d+65536*cQ l)%65536=d by omega,show(d+65536*cQ l) / 65536=cQ l by omega]
theorem yI:∀{l:List Nat} {n:Nat},n<=l.length->(∀k,n<=k->k<l.length->l.getD k 0=0)->(n=0\/l.getD (n -1) 0≠0)->l.take n=uY l
 |[],n,_,_,_=>by simp[uY]
 |d::l,0,h,h1,_=>by
  have ih:=yI (l:=l) (n:=0) (Az _) (fun k _ hk=>by simpa using h1 (k+1) (Az _) (by simpa using hk)) (.inl rfl);have hd:d=0:=by simpa using h1 0 (Az _) (by simp)
  rw[Fb] at ih;simp[uY,<-ih,hd]
 |d::l,n+1,h,h1,h2=>by
  have hn:n<=l.length:=by simpa using h
  have h1':∀k,n<=k->k<l.length->l.getD k 0=0:=fun k hk hl=>by simpa using h1 (k+1) (by omega) (by simpa using hl)
  cases n with
  |zero=>have ih:=yI (l:=l) (n:=0) hn h1' (.inl rfl);have hd:d≠0:=(by simpa using h2);rw[Fb] at ih;simp[uY,<-ih,hd]
  |succ n=>
   have h2':l.getD n 0≠0:=(by simpa using h2);have ih:=yI (l:=l) (n:=n+1) hn h1' (.inr (by simpa using h2'));have cP:l≠[]:=by rintro rfl;simp at hn
   have :¬uY l=[]:=by rw[<-ih];intro e;have hl:0<(l.take (n+1)).length:=(by rw[Db];omega);rw[e] at hl;exact absurd hl (Ez 0)
   rw[uY,if_neg this,Dp,ih]
theorem QU {k:Nat}:∀{n:Nat},n<65536^k->(dg n).length<=k:=by
 induction k with
 |zero=>intro n h;have :n=0:=by simpa using h
        subst this;simp[uN]
 |succ k ih=>
  intro n h;by_cases hn:n=0
  . subst hn;simp[uN]
  rw[KA hn]
  have :n / 65536<65536^k:=by rw[Dx (by decide),<-Ef];exact h
  have :=ih this;simp only[Aq];omega
theorem CR:∀{l:List Nat},DD l->cQ l<65536^l.length
 |[],_=>by simp[cQ]
 |d::l,h=>by have ih:=CR h.tail;have hd:=h d Ar;rw[cQ,Aq,Ef];omega
theorem uZ:∀(a b:List Nat),cQ (a++b)=cQ a+65536^a.length*cQ b
 |[],b=>by simp[cQ]
 |d::a,b=>by have ih:=uZ a b;rw[Ep,cQ,ih,cQ,Aq,Ef,Eo,Dg (65536^a.length) 65536,<-Gt,Br]
theorem Kv {l:List Nat} {k:Nat} (h:k<l.length):cQ (l.take (k+1))=cQ (l.take k)+65536^k*l.getD k 0:=by
 rw[Ao,uZ];have :(l.take k).length=k:=by simp;omega
 rw[this];simp[h,cQ]
theorem DD.take {l:List Nat} (h:DD l) (k:Nat):DD (l.take k):=fun d hd=>h d (Bz hd)
theorem DD.getD {l:List Nat} (h:DD l) (k:Nat):l.getD k 0<65536:=by
 by_cases hk:k<l.length
 . rw[Bf,Ad hk];exact h _ (Ac hk)
 rw[Bf,Bu (by omega)];decide
theorem sO {l:List Nat} (h:DD l) {k:Nat} (hk:k<=l.length):cQ (l.take k)<65536^k:=by
 have :=CR (h.take k)
 rwa [Db,Nat.min_eq_left hk] at this
theorem bDo:W=65536*65536:=rfl
theorem BE (m:Nat):65536^(2*m)=W^m:=by rw[bDo,Nat.pow_mul]
theorem bq (m:Nat):65536^(2*m+1)=65536*W^m:=by rw[Ef,BE,Dg]
def mQ (l:List Nat):List Nat:=l.flatMap fun w=>[w%65536,w / 65536]
theorem Lk:∀l:List Nat,cQ (mQ l)=CH l
 |[]=>rfl
 |w::l=>by have ih:=Lk l;have e:mQ (w::l)=w%65536::w / 65536::mQ l:=rfl;rw[e,cQ,cQ,ih,CH,W];omega
theorem QC:∀{l:List Nat},(∀w∈l,w<W)->DD (mQ l)
 |[],_=>fun d hd=>by cases hd
 |w::l,h=>by
  have e:mQ (w::l)=w%65536::w / 65536::mQ l:=rfl;have hw:=h w Ar
  have lI:w / 65536<65536:=by have :W=65536*65536:=rfl;omega
  rw[e];intro d hd
  rcases Am.1 hd with rfl|hd
  . omega
  rcases Am.1 hd with rfl|hd
  . exact lI
  exact QC (fun w hw=>h w (Aw _ hw)) d hd
theorem RB {v X m:Nat} (hm:m<16) (hv:v<W^16) (hx:bL v m+X<W):(bJ 16 v).set m (bL v m+X)=bJ 16 (v+X*W^m):=by have hl:LW 16 (bJ 16 v):=⟨cU _ _,IC⟩;have h1:=(hl.set m hx).eq;have h2:=MV (bJ 16 v) m (bL v m+X) (by rw[cU];exact hm);rw[kK hm,jB hv,Cr] at h2;rw[h1];congr 1;omega
theorem Xk {v m c:Nat} (h:v<c*W^m):bL v m<c/\v / W^m<c:=by have :v / W^m<c:=(Dx (lK m)).2 h;exact⟨Iz (Nat.mod_le _ _) this,this⟩
theorem Vw {a b:List Nat} (ha:DD a) (hb:DD b) {k:Nat} (h:cQ (a.drop (k+1))=cQ (b.drop (k+1))) (fF:a.getD k 0<b.getD k 0):cQ a<cQ b:=by
 have split:∀(l:List Nat),DD l->∃r,r<65536^k/\cQ l=r+65536^k*(l.getD k 0+65536*cQ (l.drop (k+1))):=fun l hl=>by
  by_cases hk:k<l.length
  . refine⟨cQ (l.take k),sO hl (by omega),?_⟩
    have e:l=l.take k++(l.getD k 0::l.drop (k+1)):=by have :l.getD k 0=l[k]:=(by simp[List.getD,hk]);rw[this,<-Dk hk,Ic]
    have oU:(l.take k).length=k:=by simp;omega
    conv=>lhs;rw[e]
    rw[uZ,oU,cQ]
  refine⟨cQ l,?_,?_⟩
  . exact Cj (CR hl) (Ds (by decide) (by omega))
  rw[Bf,Bu (by omega),Cc (by omega)];simp[cQ]
 obtain⟨r,h1,e1⟩:=split a ha;obtain⟨s,h2,e2⟩:=split b hb;rw[e1,e2,h];generalize cQ (b.drop (k+1))=t at *;have :a.getD k 0+65536*t+1<=b.getD k 0+65536*t:=by omega
 have :=Et (65536^k) this;rw[Eo,Ed] at this;omega
theorem TR {a b:List Nat} {k:Nat} (h:cQ (a.drop (k+1))=cQ (b.drop (k+1))) (he:a.getD k 0=b.getD k 0):cQ (a.drop k)=cQ (b.drop k):=by
 have split:∀(l:List Nat),cQ (l.drop k)=l.getD k 0+65536*cQ (l.drop (k+1)):=fun l=>by
  by_cases hk:k<l.length
  . rw[Dk hk,cQ];simp[List.getD,hk]
  rw[Cc (by omega),Cc (by omega),Bf,Bu (by omega)];simp[cQ]
 rw[split,split,h,he]
theorem nv {a b:List Nat} {k c v:Nat} (h:v+65536^k*c=cQ (a.take k)+cQ (b.take k)):
 v+65536^k*((a.getD k 0+b.getD k 0+c)%65536)+65536^(k+1)*((a.getD k 0+b.getD k 0+c) / 65536)=cQ (a.take (k+1))+cQ (b.take (k+1)):=by
 have tk:∀l:List Nat,cQ (l.take (k+1))=cQ (l.take k)+65536^k*l.getD k 0:=fun l=>by
  by_cases hk:k<l.length
  . exact Kv hk
  rw[As (by omega),As (by omega),Bf,Bu (by omega)];simp
 rw[tk,tk,Ef,Gt];generalize hx:a.getD k 0+b.getD k 0+c=x;have e:65536^k*(x%65536)+65536^k*(65536*(x / 65536))=65536^k*x:=by rw[<-Eo,Nat.mod_add_div]
 have e2:65536^k*x=65536^k*a.getD k 0+65536^k*b.getD k 0+65536^k*c:=by rw[<-hx,Eo,Eo]
 omega
end Go.uG
namespace Go.aP
section
variable {p:Nat->V} {N:Nat}
theorem ij (p:Nat->V) (a b c:Nat):aZ (vec p c b) (vec p c a)=neg (aZ (vec p a b) (vec p a c)):=by simp only[vec,aZ,sub,neg];apply V.ext'<;>simp only <;>grind
theorem UO (u w:V):dot (aZ u w) w=0:=by simp only[dot,aZ];grind
theorem PX {u w:V} (h:dot u w=0):dot (gK u) w=0:=by
 by_cases hu:u=V0
 . subst hu;rw[RP];simp[dot,V0]
 have h1:=AG u w;rw[h] at h1;exact eN (c:=(gG u:Int)) (by have :=uE hu;omega) h1
theorem YG (p:Nat->V) (a b c:Nat):eZ p c b a=(neg (eZ p a b c).1,-(eZ p a b c).2):=by unfold eZ;rw[ij p a b c,IU,pA];have h:=PX (UO (vec p a b) (vec p a c));rw[nJ] at h;rw[show dot (gK (aZ (vec p a b) (vec p a c))) (p c)=dot (gK (aZ (vec p a b) (vec p a c))) (p a) by omega]
theorem fu {a b c:Nat} {q:V×Int} (h:q∈iY p c b a):q∈iY p a b c:=by
 unfold iY at h ⊢;rw[YG] at h;split at h
 . cases h
 rename_i hz;rw[if_neg (fun e=>hz (by rw[e];rfl))];simp only[Am,Bg,Dd,neg_neg,Int.neg_neg] at h ⊢
 rcases h with h|h
 . exact .inr h
 exact .inl h
def jA (p:Nat->V) (N:Nat) (i j k:Nat) (K:List (V×Int)):Prop:=
 ∀a b c,a<b->b<c->c<N->rJ i j k a b c->∀q∈iY p a b c,pP p N q.1 q.2->q∈K
theorem jA.zero:jA p N 0 0 0 []:=fun a b c _ _ _ h=>by unfold rJ at h;omega
theorem jA.j0 {i:Nat} {K:List (V×Int)} (h:jA p N i 0 0 K):jA p N i (i+1) 0 K:=fun a b c h1 h2 h3 hb q hq F=>h a b c h1 h2 h3 (by unfold rJ at *;omega) q hq F
theorem jA.k0 {i j:Nat} {K:List (V×Int)} (h:jA p N i j 0 K):jA p N i j (j+1) K:=fun a b c h1 h2 h3 hb q hq F=>h a b c h1 h2 h3 (by unfold rJ at *;omega) q hq F
theorem jA.kN {i j:Nat} {K:List (V×Int)} (h:jA p N i j N K):jA p N i (j+1) 0 K:=fun a b c h1 h2 h3 hb q hq F=>h a b c h1 h2 h3 (by unfold rJ at *;omega) q hq F
theorem jA.jN {i:Nat} {K:List (V×Int)} (h:jA p N i N 0 K):jA p N (i+1) 0 0 K:=fun a b c h1 h2 h3 hb q hq F=>h a b c h1 h2 h3 (by unfold rJ at *;omega) q hq F
theorem jA.step {i j k:Nat} {K K':List (V×Int)} (h:jA p N i j k K) (hs:∀q∈K,q∈K') (hn:∀q∈iY p i j k,pP p N q.1 q.2->q∈K'):jA p N i j (k+1) K':=fun a b c h1 h2 h3 hb q hq F=>by
 by_cases e:a=i/\b=j/\c=k
 . obtain⟨rfl,rfl,rfl⟩:=e;exact hn q hq F
 exact hs q (h a b c h1 h2 h3 (by unfold rJ at *;omega) q hq F)
theorem jA.all {K:List (V×Int)} (h:jA p N N 0 0 K) (hK:∀q∈K,pP p N q.1 q.2) (q:V×Int):q∈K↔pP p N q.1 q.2:=by refine⟨hK q,fun F=>?_⟩;obtain⟨i,j,k,h1,h2,h3,hc⟩:=gC F;exact h k j i h1 h2 h3 (.inl (by omega)) q (fu hc) F
end
section
variable {p:Nat->V} {N:Nat}
def okF (p:Nat->V) (N:Nat) (q:V×Int):Bool:=((List.range N).all fun k=>decide (dot q.1 (p k)<=q.2))&&(List.range N).any fun k=>decide (dot q.1 (p k)<q.2)
theorem bh {q:V×Int}:okF p N q=true↔(∀k,k<N->dot q.1 (p k)<=q.2)/\∃k,k<N/\dot q.1 (p k)<q.2:=by simp only[okF,Al,Ax,Bw,Au,Bd]
def ltV (a b:V):Bool:=decide (a.x<b.x)||(decide (a.x=b.x)&&(decide (a.y<b.y)||(decide (a.y=b.y)&&decide (a.z<b.z))))
theorem ai {a b:V}:ltV a b=true↔iU a b:=by simp only[ltV,iU,Dm,Al,Bd]
def aHk:List (V×Int)->Bool
 |[]=>true
 |q::r=>(r.all fun x=>ltV q.1 x.1)&&aHk r
theorem cm:∀{S:List (V×Int)},aHk S=true->S.Pairwise fun a b=>iU a.1 b.1
 |[],_=>.nil
 |q::r,h=>by simp only[aHk,Al,Ax] at h;exact Ck.2 ⟨fun x hx=>ai.1 (h.1 x hx),cm h.2⟩
def fw (p:Nat->V) (N:Nat) (S:List (V×Int)):Bool:=
 aHk S&&(S.all fun q=>okF p N q&&(List.range N).any fun i=>(List.range i).any fun j=>(List.range j).any fun k=>(iY p i j k).contains q)&&
 ((List.range N).all fun i=>(List.range i).all fun j=>(List.range j).all fun k=>(iY p i j k).all fun q=> !okF p N q||S.contains q)
theorem HH {S:List (V×Int)} (h:fw p N S=true):oW p N S:=by
 simp only[fw,Al] at h;obtain⟨⟨h1,h2⟩,h3⟩:=h;refine⟨fun q=>⟨fun hq=>?_,fun hF=>?_⟩,cm h1⟩
 . have :=Ax.1 h2 q hq;simp only[Al,Bw,Au] at this;obtain⟨ho,i,hi,j,hj,k,hk,hc⟩:=this;obtain⟨le,lt⟩:=bh.1 ho;exact xW (i:=i) (j:=j) (k:=k) hi (by omega) (by omega) (by simpa using hc) le lt
 obtain⟨i,j,k,hk,hj,hi,hc⟩:=gC hF;simp only[Ax,Au] at h3;have :=h3 i hi j hj k hk q hc;rw[bh.2 ⟨hF.le,hF.lt⟩] at this;simpa using this
def zw (on:List Nat) (f:Nat->Nat):List Nat:=match on with
 |[]=>[]
 |s::_=>(List.range (match (List.range on.length).find? (fun i=>iter f (i+1) s==s) with|some i=>i+1|none=>0)).map fun i=>iter f i s
theorem aGv {n:V} {d:Int} {L:List Nat} (h:Poly p N n d L):L=zw (kC p N n d) (uK n p (kC p N n d)):=by
 obtain⟨s,r,m,e,W,rfl⟩:=h.ex
 have LM:(List.range (kC p N n d).length).find? (fun i=>iter (uK n p (kC p N n d)) (i+1) s==s)=some (m -1):=by have hp:=W.pos;have hle:=W.le;rw[List.find?_eq_some_iff_getElem];refine⟨by rw[show m -1+1=m by omega,Ca];exact W.back,m -1,by rw[Bv];omega,by rw[Ho],fun j hj=>?_⟩;rw[Ho];have :=W.first (j+1) (by omega) (by omega);simpa using this
 unfold zw;generalize hf:uK n p (kC p N n d)=f at *;generalize kC p N n d=on at *;subst e;simp only;rw[LM];have hp:=W.pos;rw[show(match some (m -1) with|some i=>i+1|none=>0)=m from by show m -1+1=m;omega]
end
end Go.aP
namespace Go.Av
open Go
inductive Wk:AV->AV->Prop
 |refl (a:AV):Wk a a
 |bB (tag sz:Nat) (aY els':List (List AV)) (hl:els'.length=aY.length) (hs:(∀e∈aY,e.length=sz)->∀e∈els',e.length=sz) (hf:els'.flatten.length=aY.flatten.length)
   (h:∀j,j<aY.flatten.length->Wk (aY.flatten.getD j aC) (els'.flatten.getD j aC)):Wk (.bB tag sz aY) (.bB 0 sz els')
 |agg (cs Lo:List AV) (hl:Lo.length=cs.length) (h:∀j,j<cs.length->Wk (cs.getD j aC) (Lo.getD j aC)):Wk (.agg cs) (.agg Lo)
theorem Wk.one {a b:AV} (h:Wk a b):b.one=a.one:=by cases h<;>rfl
theorem VR.wk {G:Gh} {w:World} {a b:AV} (h:Wk a b):∀{u:Value},VR G w a u->VR G w b u:=by
 induction h with
 |refl a=>exact fun h=>h
 |bB tag sz aY els' hl hs hf hj ih=>
  intro u hv
  cases hv with
  |vK _ _ b o s ht=>obtain rfl:els'=[]:=Cm hl;exact .vK _ _ b o s (by omega)
  |bB _ _ _ b o cap us hu hc hv ht=>rw[<-hl];refine .bB 0 sz els' b o cap us (hs hu) (fun j FE=>?_) (fun j FE=>ih j (by omega) (hv j (by omega))) ⟨by rw[hl];exact ht.1,trivial⟩;have MM:j<aY.flatten.length:=(by omega);exact⟨(hc j MM).1,(hc j MM).2.1,by rw[(hj j MM).one];exact(hc j MM).2.2⟩
 |agg cs Lo hl hj ih=>
  intro u hv
  cases hv with
  |agg _ vs Lu h1 hv=>refine .agg Lo vs (by omega) (fun c hc=>?_) fun j FE=>ih j (by omega) (hv j (by omega));obtain⟨j,FE,rfl⟩:=Ei hc;have MM:j<cs.length:=(by omega);have :=(hj j MM).one;simp only[List.getD,Ad FE,Ad MM,Bi] at this;rw[this];exact h1 _ (Ac MM)
theorem Sound.wk {P:Program} {g:bG} {f:FuncId} {args ry:List AV} {H H':aA} {out:Out} (h:Sound P g f ry H out H') (hl:ry.length=args.length) (hw:∀j,j<args.length->Wk (args.getD j aC) (ry.getD j aC)):Sound P g f args H out H':=
 ⟨h.1,fun G w vs hG hv=>h.2 G w vs hG ⟨by rw[hl];exact hv.1,fun j hj=>VR.wk (hw j (by omega)) (hv.2 j (by omega))⟩⟩
mutual
def fgt:AV->AV
 |.bB _ sz aY=>.bB 0 sz (AI aY)
 |.agg cs=>.agg (tJ cs)
 |a=>a
def tJ:List AV->List AV
 |[]=>[]
 |x::r=>fgt x::tJ r
def AI:List (List AV)->List (List AV)
 |[]=>[]
 |x::r=>tJ x::AI r
end
theorem AJ:∀l:List AV,(tJ l).length=l.length
 |[]=>by simp[tJ]
 |x::r=>by simp[tJ,AJ r]
theorem Qc:∀l:List (List AV),(AI l).length=l.length
 |[]=>by simp[AI]
 |x::r=>by simp[AI,Qc r]
theorem ET:∀l:List (List AV),(AI l).flatten=tJ l.flatten
 |[]=>by simp[AI,tJ]
 |x::r=>by
  have :∀a b:List AV,tJ (a++b)=tJ a++tJ b:=fun a b=>by
   induction a with
   |nil=>simp[tJ]
   |cons y a ih=>simp[tJ,ih]
  simp[AI,ET r,this]
theorem Qd {sz:Nat}:∀{l:List (List AV)},(∀e∈l,e.length=sz)->∀e∈AI l,e.length=sz
 |[],_,e,he=>by simp[AI] at he
 |x::r,h,e,he=>by
  simp only[AI,Am] at he
  rcases he with rfl|he
  . rw[AJ];exact h x Ar
  exact Qd (fun y hy=>h y (Aw _ hy)) e he
theorem BY:∀(l:List AV) (j:Nat),j<l.length->(tJ l).getD j aC=fgt (l.getD j aC)
 |[],j,hj=>absurd hj (An _)
 |x::r,0,_=>by simp[tJ]
 |x::r,j+1,hj=>by have :=BY r j ZaC;simpa [tJ] using this
theorem DU {l:List AV} {j:Nat} (hj:j<l.length):l.getD j aC∈l:=by rw[show l.getD j aC=l[j] by simp[List.getD,hj]];exact Ac hj
theorem Yt (a:AV):Wk a (fgt a):=by
 match a with
 |.bB tag sz aY=>rw[fgt];refine .bB tag sz aY _ (Qc aY) Qd (by rw[ET,AJ]) fun j hj=>?_;rw[ET,BY _ _ hj];have hm:=DU hj;generalize aY.flatten.getD j aC=x at *;obtain⟨e,he,hx⟩:=Ih.1 hm;have h1:=Jv he;have h2:=Jv hx;exact Yt _
 |.agg cs=>rw[fgt];refine .agg cs _ (AJ cs) fun j hj=>?_;rw[BY _ _ hj];have hm:=DU hj;generalize cs.getD j aC=x at *;have h2:=Jv hm;exact Yt _
 |.bool _|.int _ _|.str _|.KV|.ref _ _|.pl _|.aR|.sl _ _ _ _ _|.func _ _ _|.AU|.iface _ _|.wV|.iA _|.map _|.rT|.yield _=>simp only[fgt];exact .refl _
termination_by SizeOf.sizeOf a
decreasing_by
 . simp only[AV.bB.sizeOf_spec];omega
 simp only[AV.agg.sizeOf_spec];omega
theorem Sound.fgt {P:Program} {g:bG} {f:FuncId} {args:List AV} {H H':aA} {out:Out} (h:Sound P g f (tJ args) H out H'):Sound P g f args H out H':=
 h.wk (AJ _) fun j hj=>by rw[BY _ _ hj];exact Yt _
section
theorem VR.mo {G:Gh} {w:World} {a:AV} {u:Value} (h:VR G w a u) (b:Bool):VR ⟨G.loc,G.gZ,b⟩ w a u:=h.mono (fun _ _ h=>h) (fun _ _ h=>⟨h,rfl⟩)
section
variable {P:Program} {g g':bG}
theorem Sound.up (hv:∀n cs,g n=some cs->g' n=some cs) (hm:g.mo=true) (hm':g'.mo=false) {f:FuncId} {args:List AV} {out:Out} (h:Sound P g f args ⟨0,.nil⟩ out ⟨0,.nil⟩):Sound P g' f args ⟨0,.nil⟩ out ⟨0,.nil⟩:=by
 refine⟨h.1,fun G w vs hw oP=>?_⟩
 have Qx:WR g ⟨G.loc,G.gZ,true⟩ ⟨0,.nil⟩ w:={
  cells:=fun id l cs eM h1 h2=>by obtain⟨a1,a2,a3,a4,a5⟩:=hw.cells id l cs eM h1 h2;exact⟨a1,a2,a3,a4,fun j hj=>let⟨u,hu,hv⟩:=a5 j hj;⟨u,hu,hv.mo true⟩⟩
  room:=hw.room
  kM:=hw.kM
  jZ:=hw.jZ
  iS:=fun id l o h1 h2 h3=>by cases h2
  lt:=hw.lt
  iX:=hw.iX
  jD:=fun n cs hn=>(hw.jD n cs (hv n cs hn)).mo true
  BZ:=fun n cs hn h0=>hw.BZ n cs (hv n cs hn) h0
  mo:=hm.symm}
 refine(h.2 ⟨G.loc,G.gZ,true⟩ w vs Qx ⟨oP.1,fun j hj=>(oP.2 j hj).mo true⟩).mono fun e w' ⟨G',h1,h2,h3⟩=>?_;have hG:G.mo=false:=hw.mo.trans hm'
 refine⟨⟨G'.loc,G'.gZ,false⟩,{
  cells:=fun id l cs eM q1 q2=>by obtain⟨a1,a2,a3,a4,a5⟩:=h1.cells id l cs eM q1 q2;exact⟨a1,a2,a3,a4,fun j hj=>let⟨u,hu,hv⟩:=a5 j hj;⟨u,hu,hv.mo false⟩⟩
  room:=h1.room
  kM:=h1.kM
  jZ:=h1.jZ
  iS:=fun id l o q1 q2 q3=>by cases q2
  lt:=h1.lt
  iX:=h1.iX
  jD:=fun n cs hn=>(hw.jD n cs hn).mono h2.loc h2.gZ
  BZ:=fun n cs hn h0=>by obtain⟨c,el,fz,a1,a2⟩:=hw.BZ n cs hn h0;refine⟨c,el,fz,?_,a2⟩;rw[h2.frame n (Cf.1 a1).1 (fun id l _ ⟨o,ho,_⟩=>by cases ho)];exact a1
  mo:=hm'.symm},{
  loc:=h2.loc
  gZ:=h2.gZ
  size:=h2.size
  frame:=h2.frame
  lL:=h2.lL
  pG:=h2.pG
  next:=h2.next
  news:=h2.news
  dead:=h2.dead
  mo:=hG.symm
  same:=⟨h2.same.os,h2.same.output,h2.same.tape,fun hb=>by rw[hG] at hb;cases hb⟩},?_⟩
 cases out with
 |ret v=>cases e with
  |returned u=>exact h3.mo false
  |_=>exact h3.elim
 |JP v=>cases e with
  |panicked c=>obtain⟨u,a,b⟩:=h3;exact⟨u,a,b.mo false⟩
  |_=>exact h3.elim
end
end
section
theorem aHn (nw tag:Nat):JD none nw tag=JD none 0 tag:=by
 match tag with
 |0=>rfl
 |1=>rfl
 |k+2=>rfl
theorem Vr (H:aA) (nw:Nat) (v:AV):jH H none nw v=jH H none 0 v:=by cases v<;>simp only[jH,aHn nw]
theorem FN {f f':AV->Option AV} (h:∀x,f x=f' x):∀l,IG f l=IG f' l
 |[]=>rfl
 |x::r=>by simp only[IG,h x,FN h r]
theorem Ov (H:aA) (nw:Nat):∀(n:Nat) (v:AV),fT H none nw n v=fT H none 0 n v
 |0,v=>by cases v<;>exact Vr H nw _
 |n+1,v=>by
  cases v with
  |agg cs=>simp only[fT,FN (Ov H nw n) cs]
  |iA cs=>simp only[fT,FN (Ov H nw n) cs]
  |_=>exact Vr H nw _
abbrev Fact:=FuncId×List AV×AV
def kn (f:FuncId) (args:List AV):List Fact->Option AV
 |[]=>none
 |e::r=>match Nat.beq f e.1 with
  |true=>match rE (tJ args) e.2.1 with
   |true=>some e.2.2
   |false=>kn f args r
  |false=>kn f args r
def vT (P:Program) (g:bG) (K:List Fact):Prop:=∀e∈K,∀H,Sound P g e.1 e.2.1 H (.ret e.2.2) H
def aGl (K:List Fact) (o:Lm):Lm:=fun f args H=>match kn f args K with
 |some v=>some (.ret v,H)
 |none=>o f args H
def ran (g:bG) (T:FT) (WS:Lm) (IL:FuncId->Nat->Bool) (n:Nat) (e:Fact):Bool:=
 match bO e.2.1 with
 |true=>match exF WS T.get g 100000 IL 40 (.func (.func e.1) [] []) e.2.1 ⟨0,.nil⟩ with
  |some (.ret u,H2)=>match fT H2 none 0 n u with
   |some v=>v.same e.2.2
   |none=>false
  |_=>false
 |false=>false
section
variable {P:Program} {g:bG}
theorem xx {f:FuncId} {args:List AV} {v:AV}:∀{K:List Fact},vT P g K->kn f args K=some v->∀H,Sound P g f args H (.ret v) H
 |[],_,h,_=>by cases h
 |e::r,hK,h,H=>by
  have hr:vT P g r:=fun x hx=>hK x (Aw _ hx);simp only[kn] at h;split at h
  . rename_i hf;split at h
    . rename_i hs;cases h;obtain rfl:=Be hf;exact Sound.fgt (by rw[nF _ _ hs];exact hK e Ar H)
    exact xx hr h H
  exact xx hr h H
theorem aGm {K:List Fact} (hK:vT P g K) {o:Lm} (ho:Ky P g o):Ky P g (aGl K o):=by
 intro f args H out H' h;unfold aGl at h;split at h
 . rename_i v hv;cases h;exact xx hK hv H
 exact ho _ _ _ _ _ h
theorem aTl (hm:Fit P g) (hg:DH g) {T:FT} (hT:T.om fun f F=>∃mu,kH P g mu f F) {WS:Lm} (ho:Ky P g WS) {IL:FuncId->Nat->Bool} (hn:QG P g IL) {n:Nat} {e:Fact} (h:ran g T WS IL n e=true) (H:aA):Sound P g e.1 e.2.1 H (.ret e.2.2) H:=by
 unfold ran at h;split at h
 . rename_i ha;split at h
   . rename_i u H2 he;split at h
     . rename_i v hv;obtain rfl:=AV.TL _ _ h
       rcases KC hm ho hn (fun f F hF=>hT.get hF) 40 _ _ _ _ _ he with ⟨p,hp,hS⟩|⟨id,hc,_⟩
       . cases hp;simp only[Dc,Ch] at hS;exact hS.frame hg ha (tk:=none) (fun k hk=>by cases hk) (n:=n) H (by rw[Ov];exact hv)
       cases hc
     cases h
   cases h
 cases h
def aKg:FuncId->Nat->Bool:=fun _ _=>false
theorem y6:QG P g aKg:=fun _ _ h=>by cases h
theorem vT.nil:vT P g []:=fun e he=>by cases he
theorem vT.cons {K:List Fact} (hK:vT P g K) {f:FuncId} {args:List AV} {v:AV} (h:∀H,Sound P g f args H (.ret v) H):vT P g ((f,args,v)::K):=fun e he=>by
 rcases Am.1 he with rfl|he
 . exact h
 exact hK e he
theorem vT.ran {K:List Fact} (hK:vT P g K) (hm:Fit P g) (hg:DH g) {T:FT} (hT:T.om fun f F=>∃mu,kH P g mu f F) {o:Lm} (ho:Ky P g o) {IL:FuncId->Nat->Bool} (hn:QG P g IL) (n:Nat) {e:Fact} (h:Av.ran g T (aGl K o) IL n e=true):vT P g (e::K):=fun x hx=>by
 rcases Am.1 hx with rfl|hx
 . exact aTl hm hg hT (aGm hK ho) hn h
 exact hK x hx
end
end
end Go.Av
namespace Go.Av
open Go Go.RowKit
section
def SI (P:Program) (fl:TypeId->Option (List TypeId)):List Field->List TypeId->Option (List TypeId)
 |[],acc=>some acc
 |f::r,acc=>match fl f.type with
  |some ts=>if f.offset=acc.length/\P.cellsOf f.type=ts.length then SI P fl r (acc++ts) else none
  |none=>none
def Ua (P:Program):Nat->TypeId->Option (List TypeId)
 |0,_=>none
 |d+1,t=>match P.underlying t with
  |some (.struct fs)=>match SI P (Ua P d) fs.toList [] with
   |some ts=>if P.cellsOf t=ts.length then some ts else none
   |none=>none
  |some (.array n e)=>match Ua P d e with
   |some ts=>if P.cellsOf e=ts.length/\P.cellsOf t=n*ts.length/\0<ts.length then some (List.replicate n ts).flatten else none
   |none=>none
  |some (.int _)=>some [t]
  |some (.slice _)=>some [t]
  |some .string=>some [t]
  |_=>none
section
variable {H:Type} {enc:TypeId×Value->H} {P:Program} {w:World} {base:Nat} {spare:Nat->Bool} {held:Bool}
def pT (enc:TypeId×Value->H) (P:Program) (w:World) (base:Nat) (spare:Nat->Bool) (held:Bool) (ts:List TypeId) (cs:List Value):Prop:=
 ∀(i:Nat) (u:TypeId),ts[i]?=some u->∃(v:Value) (m:Nat) (y:DataW H×List MemPlace),cs[i]?=some v/\DataW.trod enc P w base spare held m u [v]=some y
theorem DW {ts us:List TypeId} {cs:List Value} (h1:pT enc P w base spare held ts cs) (h2:pT enc P w base spare held us (cs.drop ts.length)):pT enc P w base spare held (ts++us) cs:=by
 intro i u h;by_cases hi:i<ts.length
 . rw[Eu hi] at h;exact h1 i u h
 rw[Fx (by omega)] at h;obtain⟨v,m,y,hv,hy⟩:=h2 _ u h;refine⟨v,m,y,?_,hy⟩;rw[Fv] at hv;rw[<-hv];congr 1;omega
theorem Lb {ts:List TypeId} {cs:List Value} (n:Nat) (h:pT enc P w base spare held ts (cs.take n)):pT enc P w base spare held ts cs:=by
 intro i u hu;obtain⟨v,m,y,hv,hy⟩:=h i u hu;refine⟨v,m,y,?_,hy⟩;rw[Hq] at hv;split at hv
 . exact hv
 cases hv
theorem DX {fl:TypeId->Option (List TypeId)} {n:Nat} {cs:List Value}
 (vI:∀(u:TypeId) (ts:List TypeId) (cs:List Value) (x:DataW H×List MemPlace),fl u=some ts->DataW.trod enc P w base spare held n u cs=some x->pT enc P w base spare held ts cs):
 ∀(fs:List Field) (acc ts:List TypeId),SI P fl fs acc=some ts->pT enc P w base spare held acc cs->
  (∀f∈fs,∃x,DataW.trod enc P w base spare held n f.type ((cs.drop f.offset).take (P.cellsOf f.type))=some x)->pT enc P w base spare held ts cs
 |[],acc,ts,h,ha,hf=>by obtain rfl:=Aa h;exact ha
 |f::r,acc,ts,h,ha,hf=>by
  unfold SI at h;split at h
  . rename_i us hus;split at h
    . rename_i hc;obtain⟨x,hx⟩:=hf f (Ar ..);refine DX vI r _ ts h (DW ha ?_) (fun g hg=>hf g (Aw _ hg));rw[<-hc.1];exact Lb _ (vI _ _ _ _ hus hx)
    cases h
  cases h
theorem Oh {e:TypeId} {n:Nat} {ts:List TypeId}:∀(k:Nat) (cs:List Value),(∀i,i<k->pT enc P w base spare held ts ((cs.drop (i*ts.length)).take ts.length))->pT enc P w base spare held (List.replicate k ts).flatten cs
 |0,cs,h=>by intro i u hu;simp at hu
 |k+1,cs,h=>by
  rw[Fk,Bp];refine DW ?_ ?_
  . have :=h 0 (by omega);rw[Iw,El] at this;exact Lb _ this
  refine Oh (e:=e) (n:=n) k _ fun i hi=>?_;have :=h (i+1) (by omega);rw[Jb];rw[show ts.length+i*ts.length=(i+1)*ts.length by rw[Cr,Ht,Fo]];exact this
theorem mJ:∀(d:Nat) {t:TypeId} {ts:List TypeId} {fuel:Nat} {cs:List Value} {x:DataW H×List MemPlace},Ua P d t=some ts->DataW.trod enc P w base spare held fuel t cs=some x->pT enc P w base spare held ts cs
 |0,t,ts,fuel,cs,x,h,hx=>by cases h
 |d+1,t,ts,fuel,cs,x,h,hx=>by
  unfold Ua at h;split at h
  . rename_i fs ht;split at h
    . rename_i us hus;split at h
      . obtain rfl:=Aa h;obtain⟨xs,n,_,_,hl,Se,hf⟩:=DataW.trod_struct ht hx;refine DX (n:=n) (fun u ts cs x h1 h2=>mJ d h1 h2) fs.toList [] us hus (fun i u hu=>by simp at hu) fun f hfm=>?_;obtain⟨i,hi,hif⟩:=Ei hfm;have :=hf i f (by rw[<-hif];simp);rw[this];have gO:i<xs.length:=(by rw[Se];simpa using hi);exact⟨_,Ad gO⟩
      cases h
    cases h
  . rename_i n e ht;split at h
    . rename_i us hus;split at h
      . rename_i hc;obtain rfl:=Aa h;obtain⟨xs,m,_,_,hl,Se,hf⟩:=DataW.trod_array ht hx;refine Oh (e:=e) (n:=m) n cs fun i hi=>?_;have :=hf i hi;rw[hc.1,Ad (by omega)] at this;exact mJ d hus this
      cases h
    cases h
  . rename_i k ht;obtain rfl:=Aa h;obtain⟨n,rfl,_⟩:=DataW.trod_int ht hx;intro i u hu
    match i,hu with
    |0,hu=>exact⟨_,fuel,x,rfl,by simpa [<-Aa hu] using hx⟩
  . rename_i e ht;obtain rfl:=Aa h
    have hc:∃c,cs=[c]:=by
     rcases DataW.trod_slice ht hx with ⟨h,_⟩|⟨a,len,cap,_,_,_,_,h,_⟩
     . exact⟨_,h⟩
     exact⟨_,h⟩
    obtain⟨c,rfl⟩:=hc;intro i u hu
    match i,hu with
    |0,hu=>exact⟨_,fuel,x,rfl,by simpa [<-Aa hu] using hx⟩
  . rename_i ht;obtain rfl:=Aa h;obtain⟨z,rfl,_⟩:=DataW.trod_string ht hx;intro i u hu
    match i,hu with
    |0,hu=>exact⟨_,fuel,x,rfl,by simpa [<-Aa hu] using hx⟩
  cases h
theorem YQ {ts:List TypeId} {cs:List Value} (h:pT enc P w base spare held ts cs) {i:Nat} {u:TypeId} (hu:ts[i]?=some u) (hk:P.underlying u=some .string):
 ∃z:ByteArray,cs[i]?=some (.string z)/\z.size<=maxLen:=by
 obtain⟨v,m,y,hv,hy⟩:=h i u hu;obtain⟨z,hz,_,hs⟩:=DataW.trod_string hk hy;refine⟨z,?_,hs⟩;rw[hv];simpa using hz
theorem fA {ts:List TypeId} {cs:List Value} (h:pT enc P w base spare held ts cs) {i:Nat} {u:TypeId} {k:IntKind} (hu:ts[i]?=some u) (hk:P.underlying u=some (.int k)):
 ∃n,cs[i]?=some (.int k n)/\(Lit.int k n).wf=true:=by
 obtain⟨v,m,y,hv,hy⟩:=h i u hu;obtain⟨n,hn,_,hw⟩:=DataW.trod_int hk hy;refine⟨n,?_,hw⟩;rw[hv];simpa using hn
end
end
end Go.Av
namespace Go.Av
open Go Go.RowKit Go.ChangeShapes Go.WideShapes Go.ChangeAt Go.Deep
section
def mL (mo:Bool) (W:World):Gh:=⟨fun _=>none,fun b o=>∃v,W.cell? ⟨b,o,none⟩=some v,mo⟩
theorem aRi {g:bG} {W:World} (hg:∀n cs,g n=some cs->VR (mL g.mo W) W (.pl cs) (.pointer (some ⟨n,0,none⟩)))
 (hs:∀n cs,g n=some cs->cs≠[]->∃c el fz,W.heap[n]?=some (.cells c el fz)/\c.size=cs.length):WR g (mL g.mo W) ⟨0,.nil⟩ W where
 cells:=fun id l cs eM h=>by cases h
 room:=fun id l h=>by cases h
 kM:=fun id kP l l' _ h=>by cases h
 jZ:=fun id l h=>by cases h
 iS:=fun id l es h=>by cases h
 lt:=fun id l h=>by cases h
 iX:=fun b o h=>h
 jD:=hg
 BZ:=hs
 mo:=rfl
theorem HJ {mo:Bool} {W W':World} {G':Gh} {H':aA} (h:Ext (mL mo W) ⟨0,.nil⟩ W G' H' W') {b:Nat} (hb:b<W.heap.size):W'.heap[b]?=W.heap[b]?:=
 h.frame b hb fun id l hl=>by cases hl
theorem np {w:World} {a:Addr} {v:Value} (h:w.cell? a=some v):a.spot=none:=World.cell?_spot h
theorem rh (b o j:Nat):(Addr.mk b o none).add j=⟨b,o+j,none⟩:=by
 unfold Addr.add;split
 . rename_i h;rw[h];rfl
 rfl
section
variable {H:Type} {enc:TypeId×Value->H} {P:Program} {w:World} {base:Nat} {held:Bool}
end
theorem XN {mo:Bool} {W W':World} {G':Gh} {H':aA} (h:Ext (mL mo W) ⟨0,.nil⟩ W G' H' W') (a:Addr) (ha:a.block<W.heap.size):W'.frozen? a=W.frozen? a:=by simp only[World.frozen?,HJ h ha]
theorem xw {mo:Bool} {W W':World} {G':Gh} {H':aA} (h:Ext (mL mo W) ⟨0,.nil⟩ W G' H' W') (may:MemPlace->Prop):W.keptBut W' may:=by
 refine⟨h.same.1,h.same.2,fun i hi=>?_⟩;rw[HJ h hi]
 cases W.heap[i]? with
 |none=>rfl
 |some o=>
  cases o with
  |cells c t fr=>exact⟨rfl,rfl,rfl,fun _ _=>rfl⟩
  |map es clock=>exact .inr ⟨rfl,rfl⟩
  |_=>rfl
section
variable {H:Type} {enc:TypeId×Value->H} {P:Program}
theorem VV {mo:Bool} {f:Func} {s:ChangeSpec} {apart fresh handsOn again:Bool} {W W':World} {args:Array Value} {v:Value} {ds gs:List (DataW H)} {before pa pv:List MemPlace} {G':Gh} {H':aA}
 (hE:Ext (mL mo W) ⟨0,.nil⟩ W G' H' W')
 (hW:DataW.Whole enc P f.params.toList s.vars apart W args.toList ds gs before)
 (aEx:∀(b:Nat) (sp:Nat->Bool) (hd:Bool),DataW.TrodAll enc P W' b sp hd f.resultTypes.toList (v.resultList f.resultTypes.size) (s.fn H (ds++gs)).results [])
 (Nl:∀sp:Nat->Bool,(∀p∈before,sp p.block=true)->DataW.TrodAll enc P W' 0 sp true f.params.toList args.toList (s.fn H (ds++gs)).args pa)
 (aJa:∀sp:Nat->Bool,(∀p∈before,sp p.block=true)->DataW.TrodVars enc P W' sp s.vars (s.fn H (ds++gs)).vars pv)
 (Ur:before=pa++pv)
 (rO:∀(j:Nat) (t:TypeId) (r:Value),f.resultTypes[j]?=some t->(v.resultList f.resultTypes.size)[j]?=some r->Value.okWide P W' .any 0 t r):
 s.post enc P f apart fresh handsOn again W args v W':=by
 have hold:∀p∈before,(fun b=>decide (b<W.heap.size)) p.block=true:=fun p hp=>by simpa using hW.lt p hp
 refine⟨ds,gs,before,[],pa,pv,hW,aEx _ _ _,Nl _ hold,aJa _ hold,xw hE _,fun _=>?_⟩;obtain⟨_,_,_,_,_,hz,hn⟩:=id hW;refine⟨rO,_,_,([]++pa)++pv,⟨[]++pa,pv,trodAll_append (Nl _ (fun _ _=>rfl)) (aEx _ _ _),aJa _ (fun _ _=>rfl),rfl,?_,?_⟩,?_⟩
 . intro b off hp;have hp':MemPlace.cell b off∈before:=by rw[Ur];simpa using hp
   rw[XN hE _ (hW.lt _ hp')];exact hz b off hp'
 . intro ha;have :=hn ha;rw[Ur] at this;simpa using this
 intro p hp _;rw[Ur];simpa using hp
end
end
end Go.Av
namespace Go.Av
section
def zP:=And.intro bDi (And.intro aBn bDj)
def zG:=And.intro bDi <| And.intro sy <| And.intro gh <| And.intro @AV.cells.eq_1 <| And.intro @AV.cells.eq_2 <| And.intro @AV.yP.eq_1 <| And.intro @AV.yP.eq_2 <| And.intro @xQ.eq_1 <| And.intro @xQ.eq_2 <| And.intro @xQ.eq_3 <| And.intro @xQ.eq_4 <| And.intro @xQ.eq_5 <| And.intro @xQ.eq_6 <| And.intro @unA.eq_1 <| And.intro @unA.eq_2 <| And.intro @unA.eq_3 <| And.intro @unA.eq_4 <| And.intro @unA.eq_5 <| And.intro @unA.eq_6 @fK.eq_1
def zI:=And.intro @aA.eY.eq_1 <| And.intro sh <| And.intro sn <| And.intro sl <| And.intro @fW.eq_1 <| And.intro @HF.eq_1 <| And.intro @HF.eq_2 <| And.intro @KS.eq_1 <| And.intro @KS.eq_2 <| And.intro Gv <| And.intro Gb <| And.intro @false_implies <| And.intro @implies_true.{0} <| And.intro @implies_true.{1} <| And.intro aTw <| And.intro iz <| And.intro cOl <| And.intro @AV.cells.eq_1 <| And.intro @AV.cells.eq_2 <| And.intro @AV.yP.eq_1 <| And.intro @AV.yP.eq_2 <| And.intro @xQ.eq_1 <| And.intro @xQ.eq_2 <| And.intro @xQ.eq_3 <| And.intro @xQ.eq_4 <| And.intro @xQ.eq_5 @xQ.eq_6
def zD:=And.intro @eE.fresh.eq_1 <| And.intro @eE.fresh.eq_2 <| And.intro @eE.fresh.eq_3 <| And.intro @eE.fresh.eq_4 <| And.intro @eE.fresh.eq_5 <| And.intro @eE.fresh.eq_6 <| And.intro bIh <| And.intro bDk <| And.intro @ZC <| And.intro @eE.dJ.eq_1 <| And.intro @eE.dJ.eq_2 <| And.intro @eE.dJ.eq_3 <| And.intro @eE.dJ.eq_4 <| And.intro @eE.dJ.eq_5 <| And.intro @AO.eq_1 <| And.intro @AO.eq_2 <| And.intro @AO.eq_3 <| And.intro @AO.eq_4 <|
 And.intro @false_implies <| And.intro @implies_true.{0} <| And.intro @implies_true.{1} <| And.intro @forall_const.{0} <| And.intro @forall_const.{1} <| And.intro @Jx <| And.intro @Jy <| And.intro @Bg.{0} <| And.intro @Am.{0} <| And.intro @Dd <| And.intro @false_or <| And.intro @Ai.{0,0} <| And.intro @forall_eq.{1} <| And.intro @forall_eq_or_imp.{1} <| And.intro @forall_eq'.{1} @Ae.{0}
def zR:=And.intro @BG.eq_1 <| And.intro @BG.eq_2 <| And.intro @aAf.eq_1 <| And.intro @aAf.eq_2 <| And.intro zG zI
def zB:=And.intro aBn <| And.intro @ne_eq.{1} @Hw
theorem tB {p q:Prop} [Decidable p] [Decidable q] (h:p↔q):True/\True/\AV.bool (decide p)=AV.bool (decide q):=⟨trivial,trivial,Bn AV.bool (Bs.2 h)⟩
theorem Rx {rs:List GJ} {R:Out->aA->Prop} {f:dE} {H:aA} {vs:List AV} (hR:R (.ret (nZ vs)) H) (hv:BG f H rs=some vs:=by(simp only[↓zP,zR,seval];rfl)):Lz rs R .ret f [] H:=⟨rfl,vs,hv,hR⟩
def zJ:=And.intro zG zI
def zM:=And.intro sm <| And.intro @Ip.{0} @Jy
theorem wI {z y:Int} (h: -2^63<=z/\z<2^63/\z=y):IntKind.i64.wrap z=y:=by rw[wrap_i64 h.1 h.2.1];exact h.2.2
theorem eL (h:aA) (s t:Nat) (x:List AV):cL h s (.bB t s [x])=some [x]:=by simp[cL]
theorem Dz {P:Program} {g:bG} {n:Nat} {f:dE} {ds:List gM} {H:aA} {Q:FQ} {pairs:List (Nat×Nat)} {rl:List bK} (h:eG P g n pairs H.next 0 0 rl [] [] f H fun f' H'=>Q .normal f' ds H') (h0:rl.countP (·.op.fresh)=0:=by decide):FC P g n (.draw rl pairs) f ds H Q:=To h0 h
structure Kt (P:Program) (g:bG) (n:Nat) (b:cG) (Q:FQ) (f:dE) (ds:List gM) (H:aA):Prop where
 h:FC P g n b f ds H Q
theorem aX {P:Program} {g:bG} {n:Nat} {b:cG} {Q:FQ} {f f':dE} {ds:List gM} {H H':aA} (hf:f=f') (hH:H=H'):Kt P g n b Q f ds H=Kt P g n b Q f' ds H':=by rw[hf,hH]
theorem bR {P:Program} {g:bG} {n:Nat} {b:cG} {Q:FQ} {f:dE} {ds:List gM} {H:aA} (h:FC P g n b f ds H Q):Kt P g n b Q f ds H:=⟨h⟩
theorem bQ {P:Program} {g:bG} {n:Nat} {a b:cG} {Q:FQ} {f:dE} {ds:List gM} {H:aA} (h:FC P g n a f ds H (iT (Kt P g n b Q) Q)):FC P g n (.seq a b) f ds H Q:=by
 rw[ZB];refine jM (fun e f ds H hq=>?_) h
 cases e with
 |normal=>exact hq.h
 |_=>exact hq
theorem fD {P:Program} {g:bG} {n:Nat} {a b:cG} {Q:FQ} {f:dE} {ds:List gM} {H:aA} (h:FC P g n a f ds H (iT (Kt P g n b Q) Q)):Kt P g n (.seq a b) Q f ds H:=⟨bQ h⟩
section
variable {P:Program} {g:bG} {n:Nat} {f:dE} {H:aA} {d:Nat} {fid:FuncId} {azs:List Arg} {args:List AV} {v:AV} {H':aA}
theorem bZ {r:List bK} {ds:List gM} {Q:FQ} (hS:Sound P g fid args H (.ret v) H') (h:bS P g n r (kD f d v) ds H' Q) (hd:d<n:=by decide) (ha:azs.map (nQ g f)=args:=by simp only[sm,aBn,Nat.reduceEqDiff,fK]):
 bS P g n (⟨some d,.call (.const (.func (.func fid) [] [])) azs,none⟩::r) f ds H Q:=ee hd ha hS h
theorem fH {pairs:List (Nat×Nat)} {base i k:Nat} {rs:List bK} {rd:List (Nat×Nat)} {ef:List (Nat×aA×aA)} {R:dE->aA->Prop} (hS:Sound P g fid args H (.ret v) H')
 (h:eG P g n pairs base (i+1) k rs rd ((i,H,H')::ef) (kD f d v) H' R) (hd:d<n:=by decide) (ha:azs.map (nQ g f)=args:=by simp only[sm,aBn,ne_eq,Nat.reduceEqDiff,Hw]) (hn:H.next<=H'.next:=by exact Ab _)
 (hr:∀x∈rd,(x.1,i)∈pairs->H.get x.2=H'.get x.2:=by exact fun _ _ _=>rfl):eG P g n pairs base i k (⟨some d,.call (.const (.func (.func fid) [] [])) azs,none⟩::rs) rd ef f H R:=iO hd ha hS hn hr h
end
theorem Ks {f g f0:Nat->AV} {n:Nat} {v:AV} (h:f=g) (e:f0 n=v) (k:g n=f0 n:=by simp only[zB,seval]):f n=v:=by rw[h,k,e]
theorem zq {a b:AV} (k:a=b:=by simp only[zB,seval]):a=b:=k
theorem Tz {p q:Prop} (h:q) (k:p=q:=by simp only[↓zP,zG,seval];exact rfl):p:=by rw[k];exact h
theorem Ty {p q:Prop} (h:q) (k:p=q:=by simp only[↓zP,zJ,seval];exact rfl):p:=by rw[k];exact h
theorem Tx {p q:Prop} (h:q) (k:p=q:=by simp only[↓zP,seval];exact rfl):p:=by rw[k];exact h
end
end Go.Av
namespace Go.Proofs.YtgggiembljfnhaaGreatDoor
open Go Go.Av
def bDv:Nat->Option (List AV):=fun _=>none
def gv:bG:=mkG Tryz.prog bDv
theorem fit:Fit Tryz.prog gv:=ao (by kernel_rfl)
theorem fG:DH gv:=fun n cs h=>by cases h
abbrev Sg (f:FuncId) (args:List AV) (H:aA) (out:Out) (H':aA):Prop:=Sound Tryz.prog gv f args H out H'
abbrev CW (f:Go.Func):={x:BR // KU Tryz.prog gv false f=some x}
theorem cM {k:FuncId} {f:Go.Func} (h:Tryz.prog.funcs[k]?=some f) (W:CW f) (h2:(f.name== "runtime.NumGoroutine")=false:=by kernel_rfl):kH Tryz.prog gv false k W.1:=jC h h2 W.2
abbrev Fi (k:FuncId) {f:Go.Func} (W:CW f):=kH Tryz.prog gv false k W.1
theorem Sp {mu:Bool} {k:FuncId} {F:BR} (hF:kH Tryz.prog gv mu k F) {args:List AV} {v:AV} (ha:bO args=true) (hv:v.free=true)
 (h:FC Tryz.prog gv F.ntmps F.body (fK args) [] ⟨0,.nil⟩ (Lz F.results fun o _=>o=.ret v)) (H:aA) (hl:args.length<=F.ntmps:=by exact Ak rfl):Sound Tryz.prog gv k args H (.ret v) H:=
 EH fit fG hF hl ha hv h H
theorem So {mu:Bool} {k:FuncId} {F:BR} (hF:kH Tryz.prog gv mu k F) {args:List AV} {v:AV} (ha:bO args=true)
 (h:FC Tryz.prog gv F.ntmps F.body (fK args) [] ⟨0,.nil⟩ (Lz F.results fun o _=>o=.ret v)) (H:aA) (hv:v.free=true:=by simp only[sf,sfI,cS]) (hl:args.length<=F.ntmps:=by exact Ak rfl):Sound Tryz.prog gv k args H (.ret v) H:=
 EH fit fG hF hl ha hv h H
theorem cX {g:bG} {mu:Bool} {fn:Go.Func} {F:BR} (h:(KU Tryz.prog g mu fn).isSome=true:=by kernel_rfl) (hx:mkX Tryz.prog g mu fn=some F:=by conv=>lhs;cbv):KU Tryz.prog g mu fn=some F:=yq h hx
def mkY (P:Program) (g:bG) (mu:Bool) (fn:Go.Func) (c:Code):Option BR:=
 match dT P g mu c,uM P fn.results.toList with
  |some b,some r=>some ⟨fn.ntmps,r,b⟩
  |_,_=>none
theorem uJ {g:bG} {mu:Bool} {fn:Go.Func} {F:BR} {b:Code} (hb:fn.body=some b:=by exact rfl) (h:(KU Tryz.prog g mu fn).isSome=true:=by kernel_rfl) (hx:mkY Tryz.prog g mu fn b=some F:=by
 conv=>lhs;unfold mkY;simp only[ax]
 (try conv in (occs:= *) lP _ _ _ _ _=>all_goals cbv)
 (try simp only[Bx])
 (try conv in (occs:= *) sM _ _=>all_goals cbv)
 conv=>lhs;cbv):KU Tryz.prog g mu fn=some F:=yq h (by unfold mkX;rw[hb];exact hx)
theorem gH {f:FuncId} {mu:Bool} {F:BR} (hF:kH Tryz.prog gv mu f F) {args:List AV} (ha:args.length<=F.ntmps) {H H':aA} {out:Out}
 (h:FC Tryz.prog gv F.ntmps F.body (fK args) [] H (Lz F.results fun o h=>o=out/\h=H')) (hdt:F.body.dO=true:=by first|rfl|decide):Sound Tryz.prog gv f args H out H':=by
 obtain⟨_,_,⟨rfl,rfl⟩,hS⟩:=cY fit hF ha h hdt;exact hS
def upC:List AV:=[.int .i64 0,.int .i64 0,.int .i64 1]
def Nh (n:Nat):Option (List AV):=match Nat.beq n 0 with
 |true=>some upC
 |false=>match Nat.beq n 999999999 with
  |true=>some []
  |false=>none
def DN:bG:=mkG Tryz.prog Nh
abbrev St (f:FuncId) (args:List AV) (H:aA) (out:Out) (H':aA):Prop:=Sound Tryz.prog DN f args H out H'
theorem aUm:Fit Tryz.prog DN:=ao (by kernel_rfl)
theorem XP:DH DN:=fun n cs h=>by
 have h:Nh n=some cs:=h;unfold Nh at h;split at h
 . cases h;rfl
 split at h
 . cases h;rfl
 cases h
theorem moT:DN.mo=false:=rfl
theorem toT {f:FuncId} {args:List AV} {v:AV} (ha:bO args=true) (hv:v.free=true) (h:∀H,Sg f args H (.ret v) H) (H:aA):Sound Tryz.prog DN f args H (.ret v) H:=
 (Sound.up (g:=gv) (g':=DN) (fun n cs h=>by cases h) rfl moT (h ⟨0,.nil⟩)).frame XP ha (tk:=none) (fun k hk=>by cases hk) (n:=0) H (CQ hv)
theorem aTy {K:List Fact} (h:vT Tryz.prog gv K) (hf:(K.all fun e=>bO e.2.1&&e.2.2.free)=true):vT Tryz.prog DN K:=fun e he H=>by have :=Ax.1 hf e he;rw[Al] at this;exact toT this.1 this.2 (h e he) H
end Go.Proofs.YtgggiembljfnhaaGreatDoor
namespace Go.Proofs.YtgggiembljfnhaaGreatDoor
open Go Go.Av Go.aP
open Go.ChangeShapes Go.WideShapes Go.ChangeAt Go.RowKit
theorem own:ownKnob Tryz.prog.godebug=none:=by kernel_rfl
theorem laidOut:laidOutB Tryz.prog=true:=by kernel_rfl
def Zy:List (String×DataW Unit):=Rows.yardAppliesAsSpecifiedRow.laid
theorem gUp:Tryz.prog.globalNamed "skewback/contact.up" =some 0:=by kernel_rfl
theorem tUp:(Tryz.prog.globals[0]?).map (·.type)=some 60:=by kernel_rfl
def ZD:AV->DataW Unit
 |.int k n=>.lit (.int k n)
 |_=>.nil
theorem bDm:Rows.laid_skewback_contact_up=DataW.agg (upC.map ZD):=by kernel_rfl
theorem aEo {W:World} {mo:Bool} {enc:TypeId×Value->Unit} {name:String} {g:Nat} {cs:Array Value} {base fuel:Nat} {sp:Nat->Bool} {hd:Bool} {p:List MemPlace} (hg:Tryz.prog.globalNamed name=some g) (hv:W.var? Tryz.prog name=some cs)
 (h:DataW.trod enc Tryz.prog W base sp hd fuel 60 cs.toList=some (DataW.agg (upC.map ZD),p)):VR (mL mo W) W (.pl upC) (.pointer (some ⟨g,0,none⟩))/\∃c el fz,W.heap[g]?=some (.cells c el fz)/\c.size=upC.length:=by
 obtain⟨xs,m,_,hx,hl,Se,WJ⟩:=DataW.trod_array Tryz.underlying60 h;have c1:Tryz.prog.cellsOf 3=1:=by kernel_rfl
 have c3:Tryz.prog.cellsOf 60=3:=by kernel_rfl
 simp only[Ai,DataW.agg.injEq] at hx;have hr:upC.length=3:=rfl
 have key:∀j,j<3->∃n,cs[j]?=some (.int .i64 n)/\upC.getD j aC=.int .i64 n:=by
  intro j hj;have h1:=WJ j hj;rw[c1,Ed,Ad (by omega)] at h1;obtain⟨n,e1,e2,_⟩:=DataW.trod_int Tryz.underlying3 h1;refine⟨n,?_,?_⟩
  . have h3:(((cs.toList.drop j).take 1))[0]?=some (.int .i64 n):=by rw[e1];rfl
    rw[Hq,if_pos (by decide),Fv] at h3;simpa using h3
  have h2:(upC.map ZD)[j]?=some (.lit (.int .i64 n)):=by rw[hx.1,Cw,Ad (by omega),e2];rfl
  rw[Cw] at h2;rw[List.getD]
  cases hq:upC[j]? with
  |none=>rw[hq] at h2;cases h2
  |some a=>rw[hq] at h2;simp only[Bx,Ae] at h2;cases a<;>simp[ZD] at h2;obtain⟨rfl,rfl⟩:=h2;rfl
 have cell:∀j,W.cell? ⟨g,0+j,none⟩=cs[j]?:=fun j=>by rw[Cs];exact World.var?_cell hg hv j
 obtain⟨f,hf⟩:=Go.Deep.choose_lt (α:=Int) (n:=3) (p:=fun j n=>cs[j]?=some (.int .i64 n)/\upC.getD j aC=.int .i64 n) key;refine⟨.pl upC g 0 (fun j=>.int .i64 (f j)) (fun j hj=>?_) (fun j hj=>?_),?_⟩
 . rw[hr] at hj;have :=hf j hj;refine⟨⟨_,(cell j).trans this.1⟩,(cell j).trans this.1,?_⟩;rw[this.2];rfl
 . rw[hr] at hj;rw[(hf j hj).2];exact .int _ _
 unfold World.var? at hv;rw[hg] at hv;simp only[Option.bind_some] at hv;split at hv
 . rename_i c el fz hh;cases hv;exact⟨_,_,_,hh,by rw[hr];rw[c3] at hl;simpa using hl⟩
 cases hv
theorem aFk {W:World} (h:laidMetH Tryz.prog Zy W):WR DN (mL false W) ⟨0,.nil⟩ W:=by
 rw[MakeChecks.laidMetH_plain _ _ _ (by kernel_rfl)] at h;obtain⟨ps,⟨g0,t0,cs0,f0,p0,q0,vl,Qv,PN,hd0,⟨g1,t1,cs1,f1,p1,q1,CZ,ht1,tR,MJ,_,_⟩,_⟩,_,_⟩:=h;obtain rfl:=Aa (gUp.symm.trans CZ);obtain rfl:=Aa (tUp.symm.trans ht1);rw[bDm] at MJ;have G:=fun mo=>aEo (mo:=mo) CZ tR MJ;refine aRi (fun n cs hn=>?_) fun n cs hn h0=>?_;rotate_left
 . have hn:Nh n=some cs:=hn;unfold Nh at hn;split at hn
   . rename_i hb;obtain rfl:=Be hb;cases hn;exact(G false).2
   split at hn
   . cases hn;exact absurd rfl h0
   cases hn
 have hn:Nh n=some cs:=hn;unfold Nh at hn;split at hn
 . rename_i hb;obtain rfl:=Be hb;cases hn;exact(G _).1
 split at hn
 . cases hn;exact .pl [] n 0 (fun _=>undef) (fun j hj=>absurd hj (An _)) (fun j hj=>absurd hj (An _))
 cases hn
end Go.Proofs.YtgggiembljfnhaaGreatDoor
namespace Go.Proofs.YtgggiembljfnhaaGreatDoor
open Go Go.Av
def aCl:CW Tryz.f142:=⟨_,cX⟩
theorem aJi:Fi 142 aCl:=cM Tryz.func142 aCl
def aCi:CW Tryz.f113:=⟨_,cX⟩
theorem aJf:Fi 113 aCi:=cM Tryz.func113 aCi
def aCh:CW Tryz.f112:=⟨_,cX⟩
theorem aJe:Fi 112 aCh:=cM Tryz.func112 aCh
def W86:CW Tryz.f86:=⟨_,cX⟩
theorem bCk:Fi 86 W86:=cM Tryz.func86 W86
def W39:CW Tryz.f39:=⟨_,cX⟩
theorem bBw:Fi 39 W39:=cM Tryz.func39 W39
def W40:CW Tryz.f40:=⟨_,cX⟩
theorem bBx:Fi 40 W40:=cM Tryz.func40 W40
def W65:CW Tryz.f65:=⟨_,cX⟩
theorem bHk:Fi 65 W65:=cM Tryz.func65 W65
attribute [local congr] aT aI aM aH aW aQ aN aF aX
attribute [local irreducible] FC bS eG
def iC (l:List Int):List AV:=l.map (AV.int .i64)
theorem cC (l:List Int):(iC l).length=l.length:=Af _
theorem dV {l:List Int} {i:Nat} (h:i<l.length):(iC l).getD i aC=.int .i64 (l.getD i 0):=by simp[iC,h]
theorem jF (l:List Int):bO (iC l)=true:=by
 induction l with
 |nil=>rfl
 |cons x l ih=>simp only[iC,Cd,bO,AV.free,Co];exact ih
theorem qV {l:List Int} {i:Nat} (h:i<l.length):l.getD i 0∈l:=by simp[h]
def iJ (l:List Int):Nat:=l.foldl (fun o x=>Nat.gcd o x.natAbs) 0
theorem jh {l:List Int} {i:Nat} (h:i<l.length):iJ (l.take (i+1))=Nat.gcd (iJ (l.take i)) (l.getD i 0).natAbs:=by unfold iJ;rw[Ao,Jh];simp[h]
theorem HK {B:Nat}:∀{l:List Int} {o:Nat},(∀x∈l,x.natAbs<=B)->o<=B->l.foldl (fun o x=>Nat.gcd o x.natAbs) o<=B
 |[],o,_,h=>h
 |x::l,o,hl,h=>HK (l:=l) (fun y hy=>hl y (Aw _ hy)) (by
   have hx:=hl x Ar
   rcases Hn o with h0|h0
   . subst h0;show Nat.gcd 0 _<=B;rw[Gx];exact hx
   exact Ce (Nat.gcd_le_left _ h0) h)
theorem aEm {id:Nat} {l:List Int} {o:Bool} (h4:l.length=4) (hl:∀x∈l,x.natAbs<=64) {H:aA} (hg:H.get id=some (.cells (iC l) o)):
 Sg 142 [.sl id 1 0 4 4] H (.ret (.int .i64 (iJ l:Nat))) H:=by
 refine gH aJi (Ak rfl) ?_ (by rfl);unfold aCl;dsimp only;refine bQ ?_;refine Tz ?_;refine fD ?_;refine Tz ?_;refine bR ?_;refine aJ fun K hK=>?_;refine bQ ?_;refine Ty ?_;refine bR ?_;refine dD [3] (fun i vs H'=>H'=H/\vs=[.int .i64 (iJ (l.take i):Nat)]) 4 (by omega) (by decide) ?_ ?_ ?_ ?_ ?_
 . exact zq
 . exact zq
 . exact⟨rfl,by simp only[sm,zB,seval];rfl⟩
 . rintro i f H1 hi hk e1 ⟨rfl,hv⟩;simp only[zM] at hv;have gO:i<l.length:=by omega
   have hx:=hl _ (qV gO);have hd:=dV gO;have hlen:i+1<=(iC l).length:=(by rw[cC];omega);have CZ:iJ (l.take i)<=64:=HK (fun x hx=>hl x (Bz hx)) (by decide);rw[jh gO];generalize l.getD i 0=x at *;generalize iJ (l.take i)=o1 at *;refine aL ?_;refine bQ ?_;simp only[↓zP,zJ,seval,e1,hk 7 rfl,aB,hi,hg,hlen,hd];refine bR ?_;have wo:IntKind.i64.wrap (0 -x)= -x:=wI (by omega);have o7:(if -x>x then -x else x)=(x.natAbs:Int):=(by split<;>omega);refine bQ ?_;simp only[↓zP,zG,seval,wo,o7];refine bR ?_;refine aL (iM [3,6] (fun m vs H'=>H'=H1/\∃a b:Nat,vs=[.int .i64 (a:Nat),.int .i64 (b:Nat)]/\a<=64/\b<=64/\m=b/\Nat.gcd a b=Nat.gcd o1 x.natAbs) x.natAbs (by rfl) ?_ ?_)
   . exact⟨rfl,o1,x.natAbs,by simp only[sm,zB,seval,hv],CZ,hx,rfl,rfl⟩
   rintro m f2 H2 eO ⟨rfl,a,b,sU,ha,hb,rfl,hgc⟩;simp only[zM] at sU;obtain⟨v3,v6⟩:=sU;by_cases h0:m=0
   . subst h0;simp only[↓zP,zJ,seval,v3,v6];exact⟨trivial,by rw[<-hgc,Nat.gcd_zero_right]⟩
   have hz:((m:Int) != 0)=true:=(by rw[De];omega);have Pr:¬((m:Int)=0):=(by omega);have ht:Int.tmod (a:Int) (m:Int)=((a%m:Nat):Int):=rfl;refine bQ ?_;simp only[↓zP,zG,seval,v6,hz];refine bR ?_;refine aL ?_;refine Dz ?_;simp only[↓zP,zJ,seval,zD,v3,v6,Pr,ht];have fF:=Di a (show 0<m by omega);exact⟨a%m,fF,m,a%m,rfl,hb,by omega,rfl,by rw[<-hgc,Hx a m,Nat.gcd_rec m a,Hx]⟩
 rintro f H1 hk ⟨rfl,hv⟩;simp only[zM] at hv;refine Tx ?_;apply hK;clear hK K;simp only[↓zP,zG,seval,hv];refine Rx ?_;rw[As (by omega)];exact⟨rfl,rfl⟩
theorem gU (b:Bool) (A B:Prop):jK aC b A B=B:=rfl
def kX (l:List Int):Prop:=∀x∈l,-2^63<=x/\x<2^63
def IF (l:List Int):Bool:=l.all fun x=>decide (-64<=x/\x<=64)
theorem ah {l:List Int} (h:IF l=true):∀x∈l,x.natAbs<=64:=fun x hx=>by have :=Cp (Ax.1 h x hx);omega
theorem aFn {l:List Int} (h4:l.length=4) (hl:kX l) (H:aA):Sg 112 [.agg (iC l)] H (.ret (.bool (IF l))) H:=by
 refine So aJe (by simp only[sf,jF]) ?_ H;unfold aCh;dsimp only;have hlen:(iC l).length=4:=by rw[cC,h4]
 refine bQ ?_;refine Ty ?_;refine bR ?_;refine aJ fun K hK=>?_;refine bQ ?_;simp only[↓zP,zJ,seval,oL hlen];refine bR ?_;refine jI [] (fun i vs H'=>∀x∈l.take i,-64<=x/\x<=64) 4 (by omega) rfl (by decide) ?_ ?_ ?_ ?_
 . exact zq
 . intro x hx;simp at hx
 . rintro i f H1 hi hk e1 bV;have gO:i<l.length:=by omega
   have hm:=qV gO;have hx:=hl _ hm;have hd:=dV gO;have f5:f 5=.agg (iC l):=hk 5 rfl;have hle:i+1<=(iC l).length:=by rw[hlen];omega
   have fQ:(-64<=l.getD i 0/\l.getD i 0<=64)->∀x∈l.take (i+1),-64<=x/\x<=64:=fun h x hx=>by
    rw[Ao,Ap] at hx
    rcases hx with hx|hx
    . exact bV x hx
    simp[gO] at hx;subst hx;simpa [gO] using h
   have eW:¬(-64<=l.getD i 0/\l.getD i 0<=64)->IF l=false:=fun h=>by unfold IF;rw[Ej];exact⟨_,hm,by rw[Ag h];decide⟩
   generalize l.getD i 0=x at *;obtain⟨y,hy⟩:∃y,IntKind.i64.wrap (0 -x)=y:=⟨_,rfl⟩
   have hyx:(x= -2^63/\y=x)\/(x≠-2^63/\y= -x):=by
    by_cases c:x= -2^63
    . refine .inl ⟨c,?_⟩;subst c;rw[<-hy];rfl
    refine .inr ⟨c,?_⟩;rw[<-hy,wrap_i64 (by omega) (by omega)];omega
   refine aL ?_;refine bQ ?_;simp only[↓zP,zJ,seval,e1,f5,aB,hi,hle,hd];refine bR ?_;obtain⟨m,WL⟩:∃m,(if y>x then y else x)=m:=⟨_,rfl⟩;have hmm:m=x/\y<=x\/m=y/\x<y:=(by rw[<-WL];split<;>omega);refine aJ fun K2 bW=>?_;by_cases c1:m>64
   . have d1:=Aj c1;simp only[↓zP,zG,seval,hy,WL,d1,gU];apply bW;clear bW K2;refine Tz ?_;exact ZaE
   have d1:=Ag c1;by_cases c2:x=y
   . have d2:(x==y)=true:=(by rw[Ca];exact c2);by_cases c3:x=0
     . have d3:(x != 0)=false:=(by rw[c3];rfl);simp only[↓zP,zG,seval,hy,WL,d1,d2,d3];apply bW;clear bW K2;refine Tz ?_;exact fQ (by omega)
     have d3:(x != 0)=true:=(by rw[De];exact c3);simp only[↓zP,zG,seval,hy,WL,d1,d2,d3];apply bW;clear bW K2;refine Tz ?_;exact ZaE
   have d2:(x==y)=false:=(by rw[Bl];exact c2);simp only[↓zP,zG,seval,hy,WL,d1,d2];apply bW;clear bW K2;refine Tz ?_;exact fQ (by omega)
 rintro f H1 hk bV;refine Tx ?_;apply hK;clear hK K;refine Tz ?_;refine Rx ?_
 have :IF l=true:=by unfold IF;rw[Ax];exact fun x hx=>Aj (bV x (by rw[As (by omega)];exact hx))
 rw[this];rfl
def DY (l:List Int):Int:=match l.find? (fun x=>x != 0) with
 |some x=>if x<0 then -(iJ l:Int) else iJ l
 |none=>iJ l
def rM (l:List Int):Option (List Int):=if iJ l=0 then none else some (l.map fun x=>x.tdiv (DY l))
theorem cg (l:List Int):(DY l).natAbs=iJ l:=by
 unfold DY;split
 . split<;>omega
 omega
theorem Qm {l:List Int} (h:∀x∈l,x=0):iJ l=0:=by
 unfold iJ
 induction l with
 |nil=>rfl
 |cons x l ih=>rw[Hl,h x Ar];exact ih fun y hy=>h y (Aw _ hy)
theorem Qe:∀{l:List Int} {i:Nat},(∀x∈l.take i,x=0)->i<l.length->l.getD i 0≠0->l.find? (fun x=>x != 0)=some (l.getD i 0)
 |[],_,_,hi,_=>absurd hi (An _)
 |x::l,0,_,_,hx=>by have hx:x≠0:=hx;rw[Jo (by simpa using hx)];rfl
 |x::l,i+1,h,hi,hx=>by have h0:x=0:=h x (by simp);rw[List.find?_cons_of_neg (by simp[h0])];exact Qe (l:=l) (fun y hy=>h y (by simp[hy])) (by simpa using hi) hx
theorem Yh {H:aA} {id n sz off:Nat} {cs:List AV} {o:Bool} (hg:H.get id=some (.cells cs o)) (hn:0<n) (hl:off+n*sz<=cs.length):mI H n sz (.ref id off) none none none=some (.sl id sz off n n):=by unfold mI;simp[aA.eY,hg,hl];omega
theorem aEe {l:List Int} (h4:l.length=4) (hl:∀x∈l,x.natAbs<=64) (H:aA):
 Sg 113 [.agg (iC l)] H (.ret (.iA [.agg (iC ((rM l).getD [0,0,0,0])),.bool (rM l).isSome])) H:=by
 refine Sp aJf (by simp only[sf,jF]) (by simp only[AV.free,bO,jF];rfl) ?_ H;unfold aCi;dsimp only;have hlen:(iC l).length=4:=by rw[cC,h4]
 refine bQ ?_;refine Ty ?_;refine bR ?_;generalize hX:((aA.mk 0 .nil).alloc _).alloc _=HA;have g0:HA.get 0=some (.cells (iC l) false):=by subst hX;simp only[zI,seval]
 have g1:HA.get 1=some (.cells [.int .i64 0,.int .i64 0,.int .i64 0,.int .i64 0] false):=by subst hX;simp only[zI,seval]
 clear hX;refine bY fun f hf=>?_;have f1:f 1=.ref 0 0:=by subst hf;simp only[zB,seval]
 have f2:f 2=.ref 1 0:=by subst hf;simp only[zB,seval]
 clear hf;refine bQ ?_;simp only[↓zP,zG,seval,f1,dZ,Yh g0 (show 0<4 by decide) (show 0+4*1<=(iC l).length by omega)];refine bZ (aEm h4 hl g0) ?_;refine Tz ?_;refine fD ?_;by_cases hz:iJ l=0
 . have hd:((iJ l:Int)==0)=true:=by rw[Ca];omega
   simp only[↓zP,zJ,seval,hd,f2,g1];refine⟨rfl,_,by simp only[↓zP,zR,seval,f2];rfl,?_⟩;have :rM l=none:=(by unfold rM;rw[if_pos hz]);rw[this];rfl
 have hd:((iJ l:Int)==0)=false:=by rw[Bl];omega
 simp only[↓zP,zG,seval,hd];refine bR ?_;have hsg:=cg l;have bEp:iJ l<=64:=HK hl (by decide);refine aJ fun K hK=>?_
 have key:∀f:dE,f 1=.ref 0 0->f 2=.ref 1 0->f 4=.int .i64 (DY l)->K f [] HA:=by
  intro f f1 f2 f4;apply hK;clear hK K;refine aJ fun K hK=>?_;refine bQ ?_;refine Tz ?_;refine bR ?_;refine jI [] (fun i vs H'=>H'.get 0=some (.cells (iC ((l.take i).map (fun x=>x.tdiv (DY l))++l.drop i)) false)/\H'.get 1=some (.cells [.int .i64 0,.int .i64 0,.int .i64 0,.int .i64 0] false)) 4 (by omega) rfl (by decide) ?_ ?_ ?_ ?_
  . exact zq
  . exact⟨g0,g1⟩
  . rintro i f3 H1 hi hk e1 ⟨m0,m1⟩;have gO:i<l.length:=by omega
    have f31:f3 1=.ref 0 0:=(by rw[hk 1 rfl];simp only[zB,seval];exact f1);have f34:f3 4=.int .i64 (DY l):=(by rw[hk 4 rfl];simp only[zB,seval];exact f4);have hx:=hl _ (qV gO);have kZ:¬(DY l=0):=(by omega);have FF:((l.take i).map (fun x=>x.tdiv (DY l))++l.drop i).length=4:=by simp;omega
    have hd:(iC ((l.take i).map (fun x=>x.tdiv (DY l))++l.drop i)).getD i aC=.int .i64 (l.getD i 0):=by rw[dV (by omega),Bf,Fx Zai];simp[Nat.min_eq_left (Nat.le_of_lt gO)]
    have hle:i+1<=(iC ((l.take i).map (fun x=>x.tdiv (DY l))++l.drop i)).length:=by rw[cC,FF];omega
    have hw:IntKind.i64.wrap ((l.getD i 0).tdiv (DY l))=(l.getD i 0).tdiv (DY l):=by have :=Int.natAbs_tdiv_le_natAbs (l.getD i 0) (DY l);exact wrap_i64 (by omega) (by omega)
    have xk:fW (iC ((l.take i).map (fun x=>x.tdiv (DY l))++l.drop i)) i [.int .i64 ((l.getD i 0).tdiv (DY l))]=iC ((l.take (i+1)).map (fun x=>x.tdiv (DY l))++l.drop (i+1)):=by have hm:((l.take i).map (fun x=>x.tdiv (DY l))).length=i:=Zai;have h0:l.getD i 0=l[i]:=(by simp[gO]);unfold fW iC;rw[Ao,Ad gO,h0];simp only[Cx,Gr,List.map_take,List.map_drop,Fu,Cd,Fp,Aq,Bm];rw[Cl Zai,Ii,Ia Zai,As Zai];simp;omega
    refine aL ?_;refine bQ ?_;simp only[↓zP,zG,seval,e1];refine bR ?_;simp only[↓zP,zJ,seval,f31,f34,aB,hi,m0,m1,hle,hd,kZ,hw];exact⟨Bn (fun x=>some (fC.cells x false)) xk,trivial⟩
  rintro f3 H1 hk ⟨m0,m1⟩;have f31:f3 1=.ref 0 0:=by rw[hk 1 rfl];simp only[zB,seval];exact f1
  have f32:f3 2=.ref 1 0:=by rw[hk 2 rfl];simp only[zB,seval];exact f2
  refine Tx ?_;apply hK;clear hK K
  have hq:(iC (List.map (fun x=>x.tdiv (DY l)) (List.take 4 l)++List.drop 4 l))=iC (l.map fun x=>x.tdiv (DY l)):=by rw[As (by omega),Cc (by omega),Ch]
  have Ls:(iC (l.map fun x=>x.tdiv (DY l))).length=4:=by rw[cC,Af,h4]
  simp only[↓zP,zJ,seval,f31,f32,m0,m1,hq,oL Ls];refine⟨rfl,_,by simp only[↓zP,zR,seval,f32,oL Ls];rfl,?_⟩;have :rM l=some (l.map fun x=>x.tdiv (DY l)):=by unfold rM;rw[if_neg hz]
  rw[this];rfl
 refine bQ ?_;simp only[↓zP,zJ,seval,f1,g0,oL hlen];refine bR ?_;refine jI [4] (fun i vs H'=>H'=HA/\vs=[.int .i64 (iJ l:Nat)]/\∀x∈l.take i,x=0) 4 (by omega) rfl (by decide) ?_ ?_ ?_ ?_
 . exact zq
 . exact⟨rfl,by simp only[sm,zB,seval],fun x hx=>by simp at hx⟩
 . rintro i f3 H1 hi hk e1 ⟨rfl,hv,bV⟩;simp only[zM] at hv;have gO:i<l.length:=by omega
   have f31:f3 1=.ref 0 0:=(by rw[hk 1 rfl];simp only[zB,seval];exact f1);have f32:f3 2=.ref 1 0:=(by rw[hk 2 rfl];simp only[zB,seval];exact f2);have f313:f3 13=.agg (iC l):=hk 13 rfl;have hd:=dV gO;have hle:i+1<=(iC l).length:=by rw[hlen];omega
   have fQ:l.getD i 0=0->∀x∈l.take (i+1),x=0:=fun h x hx=>by
    rw[Ao,Ap] at hx
    rcases hx with hx|hx
    . exact bV x hx
    simp[gO] at hx;subst hx;simpa [gO] using h
   have hfd:=Qe bV gO
   have bFw:∀h:l.getD i 0≠0,DY l=if l.getD i 0<0 then -(iJ l:Int) else iJ l:=fun h=>by unfold DY;rw[hfd h]
   generalize l.getD i 0=x at *;refine aL ?_;refine bQ ?_;simp only[↓zP,zJ,seval,e1,f313,aB,hi,hle,hd];refine bR ?_;refine aJ fun K2 bW=>?_;by_cases c1:x=0
   . have d1:(x != 0)=false:=(by rw[c1];rfl);simp only[↓zP,zG,seval,d1];apply bW;clear bW K2;simp only[↓zP,zJ,seval,hv];exact⟨trivial,trivial,fQ c1⟩
   have d1:(x != 0)=true:=(by rw[De];exact c1);have hsx:=bFw c1;simp only[↓zP,zG,seval,d1];apply bW;clear bW K2;by_cases c2:x<0
   . have d2:=Aj c2;have hw:IntKind.i64.wrap (0 -(iJ l:Int))= -(iJ l:Int):=wI (by omega);rw[if_pos c2] at hsx;simp only[↓zP,zG,seval,d2,hv,hw];exact key _ (by simp only[zB,seval];exact f31) (by simp only[zB,seval];exact f32) (by simp only[zB,seval];rw[hsx])
   have d2:=Ag c2;rw[if_neg c2] at hsx;simp only[↓zP,zG,seval,d2];exact key _ (by simp only[zB,seval];exact f31) (by simp only[zB,seval];exact f32) (by simp only[zB,seval];rw[hsx];exact hv)
 rintro f3 H1 hk ⟨rfl,hv,bV⟩;simp only[zM] at hv;refine absurd ?_ hz;have h0:∀x∈l,x=0:=fun x hx=>bV x (by rw[As (by omega)];exact hx);exact Qm h0
def qJ (l:List Int):Bool:=IF l&&(rM l==some l)
theorem qL:∀{n:Nat} {l m:List Int},l.length=n->m.length=n->cK (List.replicate n Sk.i) (iC l) (iC m)=some (decide (l=m))
 |0,[],[],_,_=>rfl
 |n+1,x::l,y::m,h,h'=>by have ih:=qL (n:=n) (l:=l) (m:=m) (by simpa using h) (by simpa using h');simp only[Cd,iC,Fk,cK,if_true] at ih ⊢;rw[ih];simp only[Bx,Ae,Ip];rw[Cg];simp
theorem n9 {l:List Int} (h4:l.length=4) (hl:kX l) (H:aA):Sg 86 [.agg (iC l)] H (.ret (.bool (qJ l))) H:=by
 refine So bCk (by simp only[sf,jF]) ?_ H;unfold W86;dsimp only;have hlen:(iC l).length=4:=by rw[cC,h4]
 have lo:=aFn h4 hl;refine bQ ?_;refine Ty ?_;refine bR ?_;refine aJ fun K hK=>?_;simp only[↓zP,zJ,seval,oL hlen];refine bZ (lo _) ?_
 cases hb:IF l with
 |false=>refine Ty ?_;refine Rx ?_;unfold qJ;rw[hb];rfl
 |true=>
  refine Ty ?_;apply hK;clear hK K;have hq:=aEe h4 (ah hb)
  have Ls:(iC ((rM l).getD [0,0,0,0])).length=4:=by
   rw[cC];unfold rM;split
   . rfl
   simp[h4]
  refine bQ ?_;simp only[↓zP,zJ,seval,oL hlen];refine bZ (hq _) ?_;simp only[↓zP,zJ,seval,oL Ls];refine bR ?_;have XV:cK [.i,.i,.i,.i] (iC ((rM l).getD [0,0,0,0])) (iC l)=some (decide ((rM l).getD [0,0,0,0]=l)):=qL (n:=4) (by rw[<-cC,Ls]) h4;have hv:qJ l=(rM l==some l):=by unfold qJ;rw[hb];rfl
  rw[hv]
  cases hdq:rM l with
  |none=>rw[hdq] at Ls;simp only[↓zP,zG,seval,Ci];refine Rx ?_;rfl
  |some d=>rw[hdq] at Ls XV;simp only[↓zP,zJ,seval,Bc,Bi];simp only[Bi] at XV Ls;simp only[zJ,seval,oL Ls,oL hlen,XV];refine Rx ?_;simp only[nZ];congr 2;rw[Cg];simp
def gW (p:List Int):Int:=if(p.take 3).all (fun x=>decide (x<140737488355328/\x> -140737488355328))&&qJ (p.drop 3) then 0 else 1
theorem uS (l:List Int) (n:Nat):(iC l).take n=iC (l.take n):=List.map_take.symm
theorem tS (l:List Int) (n:Nat):(iC l).drop n=iC (l.drop n):=List.map_drop.symm
theorem VU {p:List Int} (h7:p.length=7) (hl:kX p) (H:aA):Sg 39 [.agg (iC p)] H (.ret (.int .i64 (gW p))) H:=by
 refine So bBw (by simp only[sf,jF]) ?_ H;unfold W39;dsimp only;have hlen:(iC p).length=7:=by rw[cC,h7]
 have h3:(p.take 3).length=3:=by simp;omega
 have h34:(p.drop 3).length=4:=by simp;omega
 have hv:=n9 h34 (fun x hx=>hl x (Dt hx));refine bQ ?_;refine Ty ?_;refine bR ?_;refine aJ fun K hK=>?_;refine bQ ?_;simp only[↓zP,zJ,seval,hlen,uS];refine bR ?_;generalize hX:(aA.mk 0 .nil).alloc _=HA;have g0:HA.get 0=some (.cells (iC p) false):=by subst hX;simp only[zI,seval]
 clear hX;refine jI [] (fun i vs H'=>H'=HA/\∀x∈(p.take 3).take i,x<140737488355328/\x> -140737488355328) 3 (by omega) rfl (by decide) ?_ ?_ ?_ ?_
 . exact zq
 . exact⟨rfl,fun x hx=>by simp at hx⟩
 . rintro i f H1 hi hk e1 ⟨rfl,bV⟩;have gO:i<(p.take 3).length:=by omega
   have hm:=qV gO;have hd:=dV gO;have f6:f 6=.agg (iC (p.take 3)):=hk 6 rfl;have hle:i+1<=(iC (p.take 3)).length:=by rw[cC];omega
   have fQ:(fun x:Int=>x<140737488355328/\x> -140737488355328) ((p.take 3).getD i 0)->∀x∈(p.take 3).take (i+1),x<140737488355328/\x> -140737488355328:=fun h x hx=>by
    rw[Ao,Ap] at hx
    rcases hx with hx|hx
    . exact bV x hx
    rw[Ad gO] at hx;simp only[Fu,Cb] at hx;rw[Bf,Ad gO] at h;subst hx;exact h
   have eW:¬((p.take 3).getD i 0<140737488355328/\(p.take 3).getD i 0> -140737488355328)->gW p=1:=fun h=>by unfold gW;rw[if_neg];intro hh;rw[Al] at hh;exact h (Cp (Ax.1 hh.1 _ hm))
   generalize (p.take 3).getD i 0=x at *;refine aL ?_;refine bQ ?_;simp only[↓zP,zJ,seval,e1,f6,aB,hi,hle,hd];refine bR ?_;refine aJ fun K2 bW=>?_;by_cases c1:x≥140737488355328
   . have d1:=Aj c1;simp only[↓zP,zG,seval,d1];apply bW;clear bW K2;refine Tz ?_;exact ZaE
   have d1:=Ag c1;by_cases c2:x<=-140737488355328
   . have d2:=Aj c2;simp only[↓zP,zG,seval,d1,d2];apply bW;clear bW K2;refine Tz ?_;exact ZaE
   have d2:=Ag c2;simp only[↓zP,zG,seval,d1,d2];apply bW;clear bW K2;refine Tz ?_;exact⟨trivial,fQ ⟨by omega,by omega⟩⟩
 rintro f H1 hk ⟨rfl,bV⟩;rw[As (by omega)] at bV;have f1:f 1=.ref 0 0:=hk 1 rfl
 have hp:gW p=if qJ (p.drop 3) then 0 else 1:=by unfold gW;rw[Ax.2 fun x hx=>Aj (bV x hx)];rfl
 refine Tx ?_;apply hK;clear hK K;refine aJ fun K hK=>?_;have h47:3+4<=(iC p).length:=by omega
 have rQ:((iC p).drop 3).take 4=iC (p.drop 3):=by rw[tS,uS,As (by omega)]
 simp only[↓zP,zJ,seval,f1,g0,h47,rQ];refine bZ (hv _) ?_
 cases hb:qJ (p.drop 3) with
 |true=>rw[hb] at hp;refine Ty ?_;apply hK;clear hK K;refine Tz ?_;refine Rx ?_;rw[hp];rfl
 |false=>rw[hb] at hp;refine Ty ?_;refine Rx ?_;rw[hp];rfl
def aLz:CW Tryz.f152:=⟨_,cX⟩
theorem aXb:Fi 152 aLz:=cM Tryz.func152 aLz
def aMa:CW Tryz.f153:=⟨_,cX⟩
theorem aXc:Fi 153 aMa:=cM Tryz.func153 aMa
def aLe:CW Tryz.f120:=⟨_,cX⟩
theorem aWg:Fi 120 aLe:=cM Tryz.func120 aLe
def aLf:CW Tryz.f121:=⟨_,uJ⟩
theorem aWh:Fi 121 aLf:=cM Tryz.func121 aLf
def aKt:CW Tryz.f100:=⟨_,cX⟩
theorem aVu:Fi 100 aKt:=cM Tryz.func100 aKt
def W62:CW Tryz.f62:=⟨_,cX⟩
theorem bHi:Fi 62 W62:=cM Tryz.func62 W62
def W42:CW Tryz.f42:=⟨_,cX⟩
theorem bGz:Fi 42 W42:=cM Tryz.func42 W42
def W43:CW Tryz.f43:=⟨_,cX⟩
theorem bHa:Fi 43 W43:=cM Tryz.func43 W43
def W83:CW Tryz.f83:=⟨_,cX⟩
theorem bHs:Fi 83 W83:=cM Tryz.func83 W83
def W84:CW Tryz.f84:=⟨_,cX⟩
theorem bHt:Fi 84 W84:=cM Tryz.func84 W84
def W35:CW Tryz.f35:=⟨_,uJ⟩
theorem bGt:Fi 35 W35:=cM Tryz.func35 W35
end Go.Proofs.YtgggiembljfnhaaGreatDoor
