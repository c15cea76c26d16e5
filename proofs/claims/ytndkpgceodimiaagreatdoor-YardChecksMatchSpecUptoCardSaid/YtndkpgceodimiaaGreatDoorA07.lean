/-
  Part of the proof of statement 10
-/
import Derived.Test.YtndkpgceodimiaaGreatDoorA06
import Derived.Test.YtndkpgceodimiaaGreatDoorA05
import Derived.Test.YtndkpgceodimiaaGreatDoorA03
import Derived.Below
import Derived.Lib.Join
import Derived.ProofKit
import Derived.OpenShut
import Derived.Deep.Slices
import Derived.Lib.LaidTab
import Derived.Test.YtndkpgceodimiaaGreatDoorProg
import Derived.KernelRfl
set_option linter.unusedVariables false
set_option linter.unusedSimpArgs false
set_option linter.unusedSectionVars false
set_option linter.defProp false
set_option maxRecDepth 100000
set_option maxHeartbeats 16000000
namespace Go.Av
open Go
section
section
variable {P:Program} {g:bB} {n:Nat}
theorem e9 {k:KI} {f:dD} {id:Nat} {args:List AV} {H2 H3:aA} {out:Out} (hb:nQ n f) (h:SP P g n k f id args H2 out H3):ND P g k (LF n f) id args H2 out H3:=by
 unfold ND;rw[KH];refine fI (fun e s1 pA H1 hq=>?_) (vZ k.LX _ [] H2 _ (hb.pK _) h);obtain⟨f1,rfl,dR,hq⟩:=hq
 cases e with
 |normal=>
  obtain⟨h1,k1,dr,h2,h3⟩:=hq;refine⟨h1,k1,dr,h2,fI (fun e s2 Qn H4 hq=>?_) (vZ k.body _ [] _ _ dR h3)⟩;obtain⟨f2,rfl,fH,hq⟩:=hq
  cases e with
  |panic v=>exact hq.elim
  |_=>exact hq
 |_=>exact hq.elim
theorem XF (hm:Fit P g) {k:KI} {f:dD} {id:Nat} {args:List AV} {H2 H3:aA} {out:Out} (hb:nQ n f) (cT:H2.get id=some (.loop k (LF n f) .ready)) (hlen:args.length=k.ps.length) (h:SP P g n k f id args H2 out H3):
 rR P g id args H2 out H3:=KO hm cT hlen (e9 hb h)
def nm (id:Nat) (R:Out->aA->Prop):FQ
 |.normal,_,ds,H=>ds=[]/\∃k sn,H.get id=some (.loop k sn .busy)/\R (.ret (.bool true)) (H.set id (.loop k sn .ready))
 |.ret,_,ds,H=>ds=[]/\∃k sn,H.get id=some (.loop k sn .busy)/\R (.ret (.bool false)) (H.set id (.loop k sn (.done .ret)))
 |.exit i,_,ds,H=>ds=[]/\∃k sn,H.get id=some (.loop k sn .busy)/\R (.ret (.bool false)) (H.set id (.loop k sn (.done (.exit i))))
 |.panic _,_,_,_=>False
theorem XG (hm:Fit P g) {k:KI} {f:dD} {id:Nat} {args:List AV} {H2:aA} {R:Out->aA->Prop} (hb:nQ n f) (cT:H2.get id=some (.loop k (LF n f) .ready)) (hlen:args.length=k.ps.length) (Xq:k.LX.dJ=true) (hd2:k.body.dJ=true)
 (h:FC P g n k.LX (sY n f (k.ps.zip args)) [] H2 (gZ (fun f1 pA H1=>pA=[]/\∃k1 dr,H1.get id=some (.loop k1 dr .ready)/\FC P g n k.body f1 [] (H1.set id (.loop k1 dr .busy)) (nm id R)) fun _ _ _ _=>False)):
 ∃out H3,R out H3/\rR P g id args H2 out H3:=by
 obtain⟨ae,s',fO,H',⟨f1,rfl,dR,hq⟩,hA2⟩:=GD Xq (vZ k.LX _ [] H2 _ (hb.pK _) h)
 cases ae with
 |normal=>
  obtain⟨rfl,k1,dr,hg,hF⟩:=hq;obtain⟨be,s2,Qn,H4,⟨f2,rfl,fH,Mm⟩,hB2⟩:=GD hd2 (vZ k.body _ [] _ _ dR hF)
  have fin:∀{out:Out} {H3:aA},(∀s,WG id out H3 be s Qn H4)->rR P g id args H2 out H3:=fun {out H3} hr=>by refine KO hm cT hlen ?_;unfold ND;rw[KH];refine fI (fun e s1 pA H1 he=>?_) hA2;obtain⟨rfl,rfl,rfl,rfl⟩:=he;refine⟨rfl,k1,dr,hg,fI (fun e s1 pA H1 he=>?_) hB2⟩;obtain⟨rfl,rfl,rfl,rfl⟩:=he;exact hr _
  cases be with
  |normal=>obtain⟨rfl,k2,sn2,Kn,hR⟩:=Mm;exact⟨_,_,hR,fin fun s=>⟨rfl,rfl,k2,sn2,Kn,rfl⟩⟩
  |ret=>obtain⟨rfl,k2,sn2,Kn,hR⟩:=Mm;exact⟨_,_,hR,fin fun s=>⟨rfl,rfl,k2,sn2,Kn,rfl⟩⟩
  |exit i=>obtain⟨rfl,k2,sn2,Kn,hR⟩:=Mm;exact⟨_,_,hR,fin fun s=>⟨rfl,rfl,k2,sn2,Kn,rfl⟩⟩
  |panic v=>exact Mm.elim
 |_=>exact hq.elim
variable {r:List bD} {f:dD} {ds:List gH} {H:aA} {Q:FQ}
theorem EC {d:Nat} {c:Arg} {id:Nat} {azs:List Arg} {args:List AV} {v:AV} {H':aA} (hd:d<n) (hc:nY g f c=.yield id) (ha:azs.map (nY g f)=args)
 (hS:rR P g id args H (.ret v) H') (h:bY P g n r (jM f d v) ds H' Q):bY P g n (⟨some d,.call c azs,none⟩::r) f ds H Q:=by
 have :∀v,fN n f (some d) v=jM f d v:=fun v=>by simp[fN,hd]
 unfold bY;simp only[gW,if_true,this];exact⟨.ret v,H',.inr ⟨id,hc,by rw[ha];exact hS⟩,h⟩
theorem fg {c:Arg} {ps:List Nat} {LX body:cD} {pS:FuncId} {fs cs:List AV} {v:AV} {He:aA} {k':KI} {s':List AV} {st:LSt} (hc:nY g f c=.func (.func pS) fs cs)
 (hS:Sound P g pS (fs++[.yield (H.next+1)]++cs) ((H.alloc .LZ).alloc (.loop ⟨ps,LX,body⟩ (LF n f) .ready)) (.ret v) He) (hl:He.get (H.next+1)=some (.loop k' s' st))
 (h:∀Hf,wV He (H.next+1) Hf->OT st f (.mark H.next::ds) Hf Q):FC P g n (.oD c ps LX body) f ds H Q:=by
 have eZ:∃Hf,wV He (H.next+1) Hf:=⟨He.set (H.next+1) .dead,rfl,fun m=>by rw[aA.aC]⟩
 obtain⟨Hf,hf⟩:=eZ;exact⟨pS,fs,cs,v,He,k',s',st,Hf,hc,hS,hl,hf,h Hf hf⟩
theorem EA {c:Arg} {ps:List Nat} {LX body:cD} {pS:FuncId} {fs cs:List AV} (hc:nY g f c=.func (.func pS) fs cs)
 (h:∃v He k' s' st,Sound P g pS (fs++[.yield (H.next+1)]++cs) ((H.alloc .LZ).alloc (.loop ⟨ps,LX,body⟩ (LF n f) .ready)) (.ret v) He/\He.get (H.next+1)=some (.loop k' s' st)/\
   ∀Hf,wV He (H.next+1) Hf->OT st f (.mark H.next::ds) Hf Q):FC P g n (.oD c ps LX body) f ds H Q:=by
 obtain⟨v,He,k',s',st,h1,h2,h3⟩:=h;exact fg hc h1 h2 h3
theorem nQ.jM {n:Nat} {f:dD} (h:nQ n f) {d:Nat} (hd:d<n) (v:AV):nQ n (jM f d v):=fun t ht=>by rw[oI _ _ (by omega)];exact h t ht
theorem aKi {c:cD} {f0:dD} {ds:List gH} {H0:aA} {Q:FQ} (hb:nQ n f0) (h:∀f H,nQ n f->f=f0->H=H0->FC P g n c f ds H Q):FC P g n c f0 ds H0 Q:=h _ _ hb rfl rfl
theorem dT {c:cD} {f0:dD} {ds:List gH} {H:aA} {Q:FQ} (h:∀f,f=f0->FC P g n c f ds H Q):FC P g n c f0 ds H Q:=h _ rfl
structure Over (H H':aA):Prop where
 le:H.next<=H'.next
 same:∀j,j<H.next->H'.get j=H.get j
theorem Over.refl (H:aA):Over H H:=⟨Ak _,fun _ _=>rfl⟩
theorem Over.alloc {H H':aA} (h:Over H H') (o:fE):Over H (H'.alloc o):=⟨by simp only[aA.aZ];have :=h.le;omega,fun j hj=>by
 have :=h.le
 rw[aA.aJ,if_neg (by omega)];exact h.same j hj⟩
theorem Over.set {H H':aA} (h:Over H H') {id:Nat} (cZ:H.next<=id) (o:fE):Over H (H'.set id o):=⟨by rw[aA.aW];exact h.le,fun j hj=>by rw[aA.aC,if_neg (by omega)];exact h.same j hj⟩
end
end
attribute [local congr] aO
section
section
variable {P:Program} {g:bB} {n:Nat}
def aEn (n c ix a b:Nat) (cs:List Nat) (ts B:cD):Bool:=
 Nat.blt c n&&Nat.blt ix n&&Nat.blt a n&&Nat.blt b n&& !Nat.beq a ix&& !Nat.beq b ix&& !Nat.beq b a&& !sU ix ts.wr&& !sU ix B.wr&&B.rJ&& !sU a cs&& !sU b cs&& !sU ix cs&&cs.all (fun t=> !sU t ts.wr)
def RA (ix a b:Nat) (ts B:cD):List Nat:=a::b::ix::(ts.wr++B.wr)
theorem ZP {id c ix a b:Nat} {op:BinOp} {dz:Int} {ts B:cD} {f:dD} {ds:List gH} {H:aA} {Q:FQ} (cs:List Nat) (J:Nat->List AV->aA->Prop) (val:Nat->Int) (N:Nat)
 (hs:aEn n c ix a b cs ts B=true) (fP:∀i,i<N->qA op .i64 (val i) .i64 dz=some (.int .i64 (val (i+1))))
 (h1:f ix=.int .i64 (val 0)) (h0:J 0 (cs.map f) H)
 (test:∀(i:Nat) (f':dD) (H':aA),i<=N->jS (RA ix a b ts B) f f'->f' ix=.int .i64 (val i)->J i (cs.map f') H'->FC P g n ts f' ds H' (gZ (fun Qs uu GM=>uu=ds/\GM=H'/\Qs c=.bool (decide (i<N))) fun _ _ _ _=>False))
 (body:∀(i:Nat) (f':dD) (H':aA),i<N->jS (RA ix a b ts B) f f'->f' ix=.int .i64 (val i)->J i (cs.map f') H'->FC P g n B f' ds H' (gZ (fun Qs _ GM=>J (i+1) (cs.map Qs) GM) (dN id Q)))
 (done:∀(f':dD) (H':aA),jS (RA ix a b ts B) f f'->J N (cs.map f') H'->Q .normal f' ds H'):
 FC P g n (.block id (.loop (.seq (.seq ts (.cond (.tmp c) .skip (.exit id))) (.seq B
  (.ops [⟨some a,.TM (.tmp ix),none⟩,⟨some b,.bin op (.tmp a) (.const (.int .i64 dz)),none⟩,⟨some ix,.TM (.tmp b),none⟩]))))) f ds H Q:=by
 simp only[aEn,Am,Cp,Gr,Aw] at hs;obtain⟨⟨⟨⟨⟨⟨⟨⟨⟨⟨⟨⟨⟨s1,s2⟩,s3⟩,s4⟩,s5⟩,s6⟩,s7⟩,t1⟩,b1⟩,b2⟩,c1⟩,c2⟩,c3⟩,c4⟩:=hs;have ne:∀{a b:Nat},Nat.beq a b=false->a≠b:=fun h e=>by subst e;simp at h
 have bHi:∀d∈ts.wr,d∈RA ix a b ts B:=fun d hd=>by simp[RA,hd]
 have bHh:∀d∈B.wr,d∈RA ix a b ts B:=fun d hd=>by simp[RA,hd]
 have kpU:∀{f':dD} {d:Nat} {v:AV},d∈RA ix a b ts B->jS (RA ix a b ts B) f f'->jS (RA ix a b ts B) f (jM f' d v):=fun {f' d v} hd hk t ht=>by have cK:t≠d:=fun e=>rH.1 ht (by rw[e];exact hd);rw[oI _ _ cK];exact hk t ht
 refine aKj (id:=id) (c:=c) (fun i f' H'=>jS (RA ix a b ts B) f f'/\f' ix=.int .i64 (val i)/\J i (cs.map f') H') N ⟨.aAt,h1,h0⟩ ?_ ?_ ?_
 · rintro i f' H' hi ⟨hk,e1,hj⟩ K hK Q';refine iY (fun e f2 Qn H2 hh=>?_) (GJ (test i f' H' hi hk e1 hj));obtain⟨k1,k2,k3⟩:=hh
   cases e with
   |normal=>obtain⟨rfl,rfl,k4⟩:=k3;refine⟨rfl,rfl,hK _ k4 ⟨hk.trans (k1.sub bHi),by rw[k1 _ t1];exact e1,?_⟩⟩;have :cs.map f2=cs.map f':=Ej fun t ht=>k1 t (by simpa using c4 t ht);rw[this];exact hj
   |_=>exact k3.elim
 · rintro i f' H' hi ⟨hk,e1,hj⟩;refine iY (fun e f2 Qn H2 hh=>?_) (GJ (body i f' H' hi hk e1 hj));obtain⟨k1,k2,k3⟩:=hh
   cases e with
   |normal=>obtain rfl:=k2 b2;refine⟨rfl,?_⟩;have e2:f2 ix=.int .i64 (val i):=(by rw[k1 _ b1];exact e1);have dP:=hk.trans (k1.sub bHh);rw[KE,GK _ _ s3];simp only[cX,dV,e2,bZ];rw[zK _ _ _ _ s4];simp only[cX,dV,wJ,rO,fP i hi,Bz,bZ];rw[GK _ _ s2];simp only[cX,dV,bZ,wB,gD,rO];refine⟨trivial,kpU (by simp[RA]) (kpU (by simp[RA]) (kpU (by simp[RA]) dP)),trivial,?_⟩;rw[IY c3,IY c2,IY c1];exact k3
   |_=>exact k3
 rintro f' H' ⟨hk,e1,hj⟩;exact done f' H' hk hj
theorem bN {id c ix a b:Nat} {ts B:cD} {f:dD} {ds:List gH} {H:aA} {Q:FQ} (cs:List Nat) (J:Nat->List AV->aA->Prop) (s N:Nat) (hsN:s<=N) (hN:N<2^63)
 (hs:aEn n c ix a b cs ts B=true) (h1:f ix=.int .i64 s) (h0:J s (cs.map f) H)
 (test:∀(i:Nat) (f':dD) (H':aA),s<=i->i<=N->jS (RA ix a b ts B) f f'->f' ix=.int .i64 i->J i (cs.map f') H'->FC P g n ts f' ds H' (gZ (fun Qs uu GM=>uu=ds/\GM=H'/\Qs c=.bool (decide (i<N))) fun _ _ _ _=>False))
 (body:∀(i:Nat) (f':dD) (H':aA),s<=i->i<N->jS (RA ix a b ts B) f f'->f' ix=.int .i64 i->J i (cs.map f') H'->FC P g n B f' ds H' (gZ (fun Qs _ GM=>J (i+1) (cs.map Qs) GM) (dN id Q)))
 (done:∀(f':dD) (H':aA),jS (RA ix a b ts B) f f'->J N (cs.map f') H'->Q .normal f' ds H'):
 FC P g n (.block id (.loop (.seq (.seq ts (.cond (.tmp c) .skip (.exit id))) (.seq B
  (.ops [⟨some a,.TM (.tmp ix),none⟩,⟨some b,.bin .add (.tmp a) (.const (.int .i64 1)),none⟩,⟨some ix,.TM (.tmp b),none⟩]))))) f ds H Q:=by
 refine ZP cs (fun i=>J (s+i)) (fun i=>((s+i:Nat):Int)) (N -s) hs (fun i hi=>?_) (by simpa using h1) (by simpa using h0) (fun i f' H' hi hk e1 hj=>?_) (fun i f' H' hi hk e1 hj=>?_) (fun f' H' hk hj=>?_)
 · simp only[qA,if_true];rw[wrap_i64 (by omega) (by omega)];simp only[Ad,AV.int.injEq,Jz];omega
 · have h:=test (s+i) f' H' (by omega) (by omega) hk e1 hj
   rwa [show decide (s+i<N)=decide (i<N -s) from by rw[Bb];omega] at h
 · have h:=body (s+i) f' H' (by omega) (by omega) hk e1 hj
   rwa [Bm] at h
 have :s+(N -s)=N:=by omega
 simp only[this] at hj;exact done f' H' hk hj
theorem ZO {id c ix a b:Nat} {ts B:cD} {f:dD} {ds:List gH} {H:aA} {Q:FQ} (cs:List Nat) (J:Nat->List AV->aA->Prop) (N:Nat) (hN:N<2^63)
 (hs:aEn n c ix a b cs ts B=true) (h1:f ix=.int .i64 ((N:Int) -1)) (h0:J N (cs.map f) H)
 (test:∀(i:Nat) (f':dD) (H':aA),i<=N->jS (RA ix a b ts B) f f'->f' ix=.int .i64 ((i:Int) -1)->J i (cs.map f') H'->FC P g n ts f' ds H' (gZ (fun Qs uu GM=>uu=ds/\GM=H'/\Qs c=.bool (decide (0<i))) fun _ _ _ _=>False))
 (body:∀(i:Nat) (f':dD) (H':aA),i<N->jS (RA ix a b ts B) f f'->f' ix=.int .i64 i->J (i+1) (cs.map f') H'->FC P g n B f' ds H' (gZ (fun Qs _ GM=>J i (cs.map Qs) GM) (dN id Q)))
 (done:∀(f':dD) (H':aA),jS (RA ix a b ts B) f f'->J 0 (cs.map f') H'->Q .normal f' ds H'):
 FC P g n (.block id (.loop (.seq (.seq ts (.cond (.tmp c) .skip (.exit id))) (.seq B
  (.ops [⟨some a,.TM (.tmp ix),none⟩,⟨some b,.bin .sub (.tmp a) (.const (.int .i64 1)),none⟩,⟨some ix,.TM (.tmp b),none⟩]))))) f ds H Q:=by
 refine ZP cs (fun i=>J (N -i)) (fun i=>((N -i:Nat):Int) -1) N hs (fun i hi=>?_) (by simpa using h1) (by simpa using h0) (fun i f' H' hi hk e1 hj=>?_) (fun i f' H' hi hk e1 hj=>?_) (fun f' H' hk hj=>?_)
 · simp only[qA,if_true];rw[wrap_i64 (by omega) (by omega)];simp only[Ad,AV.int.injEq,Jz];omega
 · have h:=test (N -i) f' H' (by omega) hk e1 hj
   rwa [show decide (0<N -i)=decide (i<N) from by rw[Bb];omega] at h
 · have e:N -i=(N -(i+1))+1:=by omega
   have e1':f' ix=.int .i64 ((N -(i+1):Nat):Int):=(by rw[e1];congr 1;omega);have GA:J ((N -(i+1))+1) (cs.map f') H':=(by rw[<-e];exact hj);exact body (N -(i+1)) f' H' (by omega) hk e1' GA
 simp only[Nat.sub_self] at hj;exact done f' H' hk hj
end
end
theorem DW {k:IntKind} (hs:k.signed=false) (x:Int):k.wrap x=x%2^k.bits:=by simp[IntKind.wrap,hs]
theorem pt {k:IntKind} (hs:k.signed=false) (x:Nat):k.wrap (x:Int)=((x%2^k.bits:Nat):Int):=by rw[DW hs];simp
theorem k8 (n x:Nat):BitVec.ofInt n (x:Int)=BitVec.ofNat n x:=by apply BitVec.eq_of_toNat_eq;simp[BitVec.toNat_ofInt]
theorem aDo {k:IntKind} (hs:k.signed=false) {a b:Nat} (ha:a<2^k.bits) (hb:b<2^k.bits):GX .or k (a:Int) (b:Int)=some (.int k ((a|||b:Nat):Int)):=by
 have h:(BitVec.ofNat k.bits a|||BitVec.ofNat k.bits b).toNat=a|||b:=by rw[BitVec.toNat_or,BitVec.toNat_ofNat,BitVec.toNat_ofNat,Db ha,Db hb]
 simp only[GX,k8,h,pt hs];rw[Db (Nat.or_lt_two_pow ha hb)]
end Go.Av
namespace Go.aI
section
variable {p:Nat->V} {N:Nat} {n:V} {d:Int}
instance:DecidableEq V:=fun a b=>match a,b with
 |⟨x,y,z⟩,⟨x',y',z'⟩=>if h:x=x'/\y=y'/\z=z' then .isTrue (by obtain⟨rfl,rfl,rfl⟩:=h;rfl) else .isFalse (fun e=>h (by cases e;exact⟨rfl,rfl,rfl⟩))
def fB (p:Nat->V) (i j k:Nat):V×Int:=(gJ (aT (vec p i j) (vec p i k)),dot (gJ (aT (vec p i j) (vec p i k))) (p i))
def iS (p:Nat->V) (i j k:Nat):List (V×Int):=
 if(fB p i j k).1=V0 then [] else [fB p i j k,(neg (fB p i j k).1,-(fB p i j k).2)]
theorem Rk:gJ V0=V0:=by simp[gJ,V0]
theorem xY {i j k:Nat} (hi:i<N) (hj:j<N) (hk:k<N) {q:V×Int} (h:q∈iS p i j k) (le:∀k,k<N->dot q.1 (p k)<=q.2) (lt:∃k,k<N/\dot q.1 (p k)<q.2):pP p N q.1 q.2:=by
 unfold iS at h;split at h
 · cases h
 rename_i hz;have hc:aT (vec p i j) (vec p i k)≠V0:=fun e=>hz (by rw[fB,e,Rk]);simp only[Ap,Br,Dq] at h
 rcases h with rfl|rfl
 · exact vY.isF (a:=i) (b:=j) (c:=k) ⟨hc,.inl rfl⟩ hi hj hk le lt rfl
 refine vY.isF (a:=i) (b:=j) (c:=k) ⟨hc,.inr rfl⟩ hi hj hk le lt ?_;simp only[fB];rw[oZ]
theorem gC (F:pP p N n d):∃i j k,k<j/\j<i/\i<N/\(n,d)∈iS p i j k:=by
 obtain⟨i,j,k,h1,h2,h3,hc,hd⟩:=F.down;refine⟨i,j,k,h1,h2,h3,?_⟩;have hz:¬(fB p i j k).1=V0:=dh hc.1;unfold iS;rw[if_neg hz]
 rcases hc.2 with e|e
 · rw[hd,e];exact Ax
 refine Ay _ (Ap.2 (.inl ?_));rw[hd,e];simp only[fB];rw[oZ]
def rQ (i j k a b c:Nat):Prop:=a<i\/(a=i/\(b<j\/(b=j/\c<k)))
def sF (p:Nat->V) (N:Nat) (i j k:Nat) (K:List (V×Int)):Prop:=
 ∀a b c,c<b->b<a->a<N->rQ i j k a b c->∀q∈iS p a b c,pP p N q.1 q.2->q∈K
theorem sF.zero:sF p N 0 0 0 []:=fun a b c _ _ _ h=>by unfold rQ at h;omega
theorem sF.down {i j:Nat} {K:List (V×Int)} (h:sF p N i j j K):sF p N i (j+1) 0 K:=fun a b c h1 h2 h3 hb q hq F=>h a b c h1 h2 h3 (by unfold rQ at *;omega) q hq F
theorem sF.next {i:Nat} {K:List (V×Int)} (h:sF p N i i 0 K):sF p N (i+1) 0 0 K:=fun a b c h1 h2 h3 hb q hq F=>h a b c h1 h2 h3 (by unfold rQ at *;omega) q hq F
theorem sF.step {i j k:Nat} {K K':List (V×Int)} (h:sF p N i j k K) (hs:∀q∈K,q∈K') (hn:∀q∈iS p i j k,pP p N q.1 q.2->q∈K'):sF p N i j (k+1) K':=fun a b c h1 h2 h3 hb q hq F=>by
 by_cases e:a=i/\b=j/\c=k
 · obtain⟨rfl,rfl,rfl⟩:=e;exact hn q hq F
 exact hs q (h a b c h1 h2 h3 (by unfold rQ at *;omega) q hq F)
theorem sF.all {K:List (V×Int)} (h:sF p N N 0 0 K) (hK:∀q∈K,pP p N q.1 q.2) (q:V×Int):q∈K↔pP p N q.1 q.2:=by refine⟨hK q,fun F=>?_⟩;obtain⟨i,j,k,h1,h2,h3,hc⟩:=gC F;exact h i j k h1 h2 h3 (.inl h3) q hc F
theorem Ou (P:V×Int->Prop):∀L:List (V×Int),∃K:List (V×Int),K.Nodup/\∀q,q∈K↔q∈L/\P q
 |[]=>⟨[],Kb,fun q=>by simp⟩
 |x::L=>by
  obtain⟨K,h1,h2⟩:=Ou P L;by_cases hx:P x/\x∉K
  · refine⟨x::K,Js.2 ⟨hx.2,h1⟩,fun q=>?_⟩;simp only[Ap,h2];constructor
    · rintro(rfl|⟨h3,h4⟩)
      · exact⟨.inl rfl,hx.1⟩
      exact⟨.inr h3,h4⟩
    rintro⟨rfl|h3,h4⟩
    · exact .inl rfl
    exact .inr ⟨h3,h4⟩
  refine⟨K,h1,fun q=>?_⟩;rw[h2];simp only[Ap];constructor
  · rintro⟨h3,h4⟩;exact⟨.inr h3,h4⟩
  rintro⟨rfl|h3,h4⟩
  · exact(h2 q).1 (Cu fun hc=>hx ⟨h4,hc⟩)
  exact⟨h3,h4⟩
theorem vK {α:Type} (R:α->α->Prop) (tr:∀{a b c},R a b->R b c->R a c) (tot:∀a b,R a b\/R b a):∀l:List α,∃s:List α,s.Perm l/\s.Pairwise R
 |[]=>⟨[],List.Perm.refl _,List.Pairwise.nil⟩
 |x::l=>by
  obtain⟨s,h1,h2⟩:=vK R tr tot l
  have ins:∀s:List α,s.Pairwise R->∃t:List α,t.Perm (x::s)/\t.Pairwise R:=by
   intro s
   induction s with
   |nil=>exact fun _=>⟨[x],List.Perm.refl _,by simp⟩
   |cons y s ih=>
    intro hs;rw[Cl] at hs
    rcases tot x y with h|h
    · refine⟨x::y::s,List.Perm.refl _,Cl.2 ⟨fun z hz=>?_,Cl.2 hs⟩⟩
      rcases Ap.1 hz with rfl|hz
      · exact h
      exact tr h (hs.1 z hz)
    obtain⟨t,t1,t2⟩:=ih hs.2;refine⟨y::t,(List.Perm.cons y t1).trans (List.Perm.swap x y s),Cl.2 ⟨fun z hz=>?_,t2⟩⟩
    rcases Ap.1 (t1.mem_iff.1 hz) with rfl|hz
    · exact h
    exact hs.1 z hz
  obtain⟨t,t1,t2⟩:=ins s h2;exact⟨t,t1.trans (List.Perm.cons x h1),t2⟩
theorem oV.exists (p:Nat->V) (N:Nat):∃S,oV p N S:=by
 obtain⟨K,h1,h2⟩:=Ou (fun q=>pP p N q.1 q.2) ((List.range N).flatMap fun i=>(List.range N).flatMap fun j=>(List.range N).flatMap fun k=>iS p i j k)
 have hK:∀q,q∈K↔pP p N q.1 q.2:=fun q=>by rw[h2];refine⟨fun h=>h.2,fun F=>⟨?_,F⟩⟩;obtain⟨i,j,k,a1,a2,a3,hc⟩:=gC F;simp only[Fa,Ba];exact⟨i,a3,j,by omega,k,by omega,hc⟩
 obtain⟨S,s1,s2⟩:=vK (fun a b:V×Int=>¬iI b.1 a.1) (fun {a b c} h h'=>by unfold iI at *;omega) (fun a b=>by unfold iI;omega) K;exact⟨S,oV.cp h1 hK s1 s2⟩
theorem tY {α:Type}:∀(l on:List α),l.Nodup->(∀x∈l,x∈on)->l.length<=on.length
 |[],_,_,_=>Az _
 |x::l,on,hn,h=>by
  obtain⟨s,t,rfl⟩:=List.append_of_mem (h x Ax);rw[Js] at hn
  have :=tY l (s++t) hn.2 fun y hy=>by
   have h1:=h y (Ay _ hy);simp only[An,Ap] at h1 ⊢
   rcases h1 with h1|rfl|h1
   · exact .inl h1
   · exact absurd hy hn.1
   exact .inr h1
  simp only[Au,Aq] at this ⊢;omega
theorem lZ {α β:Type} (f:α->List β) (m:Nat) (hf:∀x,(f x).length<=m):∀l:List α,(l.flatMap f).length<=l.length*m
 |[]=>by simp
 |x::l=>by have h1:=lZ f m hf l;have h2:=hf x;simp only[Dr,Au,Aq,Cn,Gp];omega
theorem BW {K:List (V×Int)} (hn:K.Nodup) (hK:∀q∈K,pP p N q.1 q.2):K.length<=N*(N*(N*2)):=by
 have h1:=tY K ((List.range N).flatMap fun i=>(List.range N).flatMap fun j=>(List.range N).flatMap fun k=>iS p i j k) hn fun q hq=>by obtain⟨i,j,k,a1,a2,a3,hc⟩:=gC (hK q hq);simp only[Fa,Ba];exact⟨i,a3,j,by omega,k,by omega,hc⟩
 have c:∀i j k,(iS p i j k).length<=2:=fun i j k=>by unfold iS;split<;>simp
 have h2:=lZ (fun i=>(List.range N).flatMap fun j=>(List.range N).flatMap fun k=>iS p i j k) (N*(N*2)) (fun i=>by
  have :=lZ (fun j=>(List.range N).flatMap fun k=>iS p i j k) (N*2) (fun j=>by
   have :=lZ (fun k=>iS p i j k) 2 (fun k=>c i j k) (List.range N)
   rwa [Bp] at this) (List.range N)
  rwa [Bp] at this) (List.range N)
 rw[Bp] at h2;omega
theorem Yb {js:List Nat} {n:Nat} (hn:js.Nodup) (hl:∀j∈js,j<n) (bM:∀j,j<n->j∈js):js.Perm (List.range n):=
 (List.perm_ext_iff_of_nodup hn List.nodup_range).2 fun a=>by rw[Ba];exact⟨hl a,bM a⟩
theorem OX {α:Type} (l:List α) (d:α):(List.range l.length).map (fun j=>l.getD j d)=l:=by refine Gj (by simp) fun k h1 h2=>?_;simp[List.getD,h2]
end
end Go.aI
namespace Go.sK
def cS:List Nat->Nat
 |[]=>0
 |d::l=>d+65536*cS l
def DD (l:List Nat):Prop:=∀d∈l,d<65536
def vE:List Nat->List Nat
 |[]=>[]
 |d::l=>if vE l=[] then(if d=0 then [] else [d]) else d::vE l
def dg (n:Nat):List Nat:=if n=0 then [] else n%65536::dg (n / 65536)
termination_by n
decreasing_by omega
theorem uV:dg 0=[]:=by unfold dg;rfl
theorem KU {n:Nat} (h:n≠0):dg n=n%65536::dg (n / 65536):=by rw[dg,if_neg h]
theorem Si {n:Nat}:dg n=[]↔n=0:=by
 constructor
 · intro h;refine Cu fun hn=>?_;rw[KU hn] at h;cases h
 rintro rfl;exact uV
theorem yN (n:Nat):cS (dg n)=n:=by
 induction n using dg.induct with
 |case1=>rw[uV];rfl
 |case2 n h ih=>rw[KU h,cS,ih];omega
theorem GI (n:Nat):DD (dg n):=by
 induction n using dg.induct with
 |case1=>rw[uV];intro d hd;cases hd
 |case2 n h ih=>
  rw[KU h];intro d hd
  rcases Ap.1 hd with rfl|hd
  · omega
  exact ih d hd
theorem DD.tail {d:Nat} {l:List Nat} (h:DD (d::l)):DD l:=fun x hx=>h x (Ay _ hx)
theorem JS:∀{l:List Nat},DD l->vE l=dg (cS l)
 |[],_=>by simp[vE,cS,uV]
 |d::l,h=>by
  have ih:=JS h.tail;have hd:=h d Ax;simp only[vE,ih,Si,cS];by_cases hv:cS l=0
  · rw[if_pos hv,hv];by_cases Xp:d=0
    · subst Xp;simp[uV]
    rw[if_neg Xp,KU (by omega),show(d+65536*0)%65536=d by omega,show(d+65536*0) / 65536=0 by omega,uV]
  rw[if_neg hv,KU (n:=d+65536*cS l) (by omega),show(d+65536*cS l)%65536=d by omega,show(d+65536*cS l) / 65536=cS l by omega]
theorem yM:∀{l:List Nat} {n:Nat},n<=l.length->(∀k,n<=k->k<l.length->l.getD k 0=0)->(n=0\/l.getD (n -1) 0≠0)->l.take n=vE l
 |[],n,_,_,_=>by simp[vE]
 |d::l,0,h,h1,_=>by
  have ih:=yM (l:=l) (n:=0) (Az _) (fun k _ hk=>by simpa using h1 (k+1) (Az _) (by simpa using hk)) (.inl rfl);have hd:d=0:=by simpa using h1 0 (Az _) (by simp)
  rw[Es] at ih;simp[vE,<-ih,hd]
 |d::l,n+1,h,h1,h2=>by
  have hn:n<=l.length:=by simpa using h
  have h1':∀k,n<=k->k<l.length->l.getD k 0=0:=fun k hk hl=>by simpa using h1 (k+1) (by omega) (by simpa using hl)
  cases n with
  |zero=>have ih:=yM (l:=l) (n:=0) hn h1' (.inl rfl);have hd:d≠0:=(by simpa using h2);rw[Es] at ih;simp[vE,<-ih,hd]
  |succ n=>
   have h2':l.getD n 0≠0:=(by simpa using h2);have ih:=yM (l:=l) (n:=n+1) hn h1' (.inr (by simpa using h2'));have cK:l≠[]:=by rintro rfl;simp at hn
   have :¬vE l=[]:=by rw[<-ih];intro e;have hl:0<(l.take (n+1)).length:=(by rw[Cq];omega);rw[e] at hl;exact absurd hl (Ff 0)
   rw[vE,if_neg this,Dl,ih]
theorem Qk {k:Nat}:∀{n:Nat},n<65536^k->(dg n).length<=k:=by
 induction k with
 |zero=>intro n h;have :n=0:=by simpa using h
        subst this;simp[uV]
 |succ k ih=>
  intro n h;by_cases hn:n=0
  · subst hn;simp[uV]
  rw[KU hn]
  have :n / 65536<65536^k:=by rw[Ea (by decide),<-Eh];exact h
  have :=ih this;simp only[Aq];omega
theorem CM:∀{l:List Nat},DD l->cS l<65536^l.length
 |[],_=>by simp[cS]
 |d::l,h=>by have ih:=CM h.tail;have hd:=h d Ax;rw[cS,Aq,Eh];omega
theorem vF:∀(a b:List Nat),cS (a++b)=cS a+65536^a.length*cS b
 |[],b=>by simp[cS]
 |d::a,b=>by have ih:=vF a b;rw[Fc,cS,ih,cS,Aq,Eh,Er,Dk (65536^a.length) 65536,<-Gt,Bm]
theorem LR {l:List Nat} {k:Nat} (h:k<l.length):cS (l.take (k+1))=cS (l.take k)+65536^k*l.getD k 0:=by
 rw[Al,vF];have :(l.take k).length=k:=by simp;omega
 rw[this];simp[h,cS]
theorem DD.take {l:List Nat} (h:DD l) (k:Nat):DD (l.take k):=fun d hd=>h d (By hd)
theorem DD.getD {l:List Nat} (h:DD l) (k:Nat):l.getD k 0<65536:=by
 by_cases hk:k<l.length
 · rw[Bw,Ab hk];exact h _ (Ac hk)
 rw[Bw,Bs (by omega)];decide
theorem tA {l:List Nat} (h:DD l) {k:Nat} (hk:k<=l.length):cS (l.take k)<65536^k:=by
 have :=CM (h.take k)
 rwa [Cq,Jq hk] at this
theorem bCd:W=65536*65536:=rfl
theorem BF (m:Nat):65536^(2*m)=W^m:=by rw[bCd,Nat.pow_mul]
theorem de (m:Nat):65536^(2*m+1)=65536*W^m:=by rw[Eh,BF,Dk]
def mR (l:List Nat):List Nat:=l.flatMap fun w=>[w%65536,w / 65536]
theorem ME:∀l:List Nat,cS (mR l)=CF l
 |[]=>rfl
 |w::l=>by have ih:=ME l;have e:mR (w::l)=w%65536::w / 65536::mR l:=rfl;rw[e,cS,cS,ih,CF,W];omega
theorem QZ:∀{l:List Nat},(∀w∈l,w<W)->DD (mR l)
 |[],_=>fun d hd=>by cases hd
 |w::l,h=>by
  have e:mR (w::l)=w%65536::w / 65536::mR l:=rfl;have hw:=h w Ax
  have lM:w / 65536<65536:=by have :W=65536*65536:=rfl;omega
  rw[e];intro d hd
  rcases Ap.1 hd with rfl|hd
  · omega
  rcases Ap.1 hd with rfl|hd
  · exact lM
  exact QZ (fun w hw=>h w (Ay _ hw)) d hd
theorem RW {v X m:Nat} (hm:m<16) (hv:v<W^16) (hx:bF v m+X<W):(bC 16 v).set m (bF v m+X)=bC 16 (v+X*W^m):=by have hl:LW 16 (bC 16 v):=⟨cM _ _,IT⟩;have h1:=(hl.set m hx).eq;have h2:=Mr (bC 16 v) m (bF v m+X) (by rw[cM];exact hm);rw[kM hm,iX hv,Cn] at h2;rw[h1];congr 1;omega
theorem YI {v m c:Nat} (h:v<c*W^m):bF v m<c/\v / W^m<c:=by have :v / W^m<c:=(Ea (lQ m)).2 h;exact⟨Jd (Nat.mod_le _ _) this,this⟩
theorem WW {a b:List Nat} (ha:DD a) (hb:DD b) {k:Nat} (h:cS (a.drop (k+1))=cS (b.drop (k+1))) (eZ:a.getD k 0<b.getD k 0):cS a<cS b:=by
 have split:∀(l:List Nat),DD l->∃r,r<65536^k/\cS l=r+65536^k*(l.getD k 0+65536*cS (l.drop (k+1))):=fun l hl=>by
  by_cases hk:k<l.length
  · refine⟨cS (l.take k),tA hl (by omega),?_⟩
    have e:l=l.take k++(l.getD k 0::l.drop (k+1)):=by have :l.getD k 0=l[k]:=(by simp[List.getD,hk]);rw[this,<-Ct hk,Gb]
    have oU:(l.take k).length=k:=by simp;omega
    conv=>lhs;rw[e]
    rw[vF,oU,cS]
  refine⟨cS l,?_,?_⟩
  · exact Ca (CM hl) (Ds (by decide) (by omega))
  rw[Bw,Bs (by omega),Bt (by omega)];simp[cS]
 obtain⟨r,h1,e1⟩:=split a ha;obtain⟨s,h2,e2⟩:=split b hb;rw[e1,e2,h];generalize cS (b.drop (k+1))=t at *;have :a.getD k 0+65536*t+1<=b.getD k 0+65536*t:=by omega
 have :=Ev (65536^k) this;rw[Er,Dt] at this;omega
theorem To {a b:List Nat} {k:Nat} (h:cS (a.drop (k+1))=cS (b.drop (k+1))) (he:a.getD k 0=b.getD k 0):cS (a.drop k)=cS (b.drop k):=by
 have split:∀(l:List Nat),cS (l.drop k)=l.getD k 0+65536*cS (l.drop (k+1)):=fun l=>by
  by_cases hk:k<l.length
  · rw[Ct hk,cS];simp[List.getD,hk]
  rw[Bt (by omega),Bt (by omega),Bw,Bs (by omega)];simp[cS]
 rw[split,split,h,he]
theorem o9 {a b:List Nat} {k c v:Nat} (h:v+65536^k*c=cS (a.take k)+cS (b.take k)):
 v+65536^k*((a.getD k 0+b.getD k 0+c)%65536)+65536^(k+1)*((a.getD k 0+b.getD k 0+c) / 65536)=cS (a.take (k+1))+cS (b.take (k+1)):=by
 have tk:∀l:List Nat,cS (l.take (k+1))=cS (l.take k)+65536^k*l.getD k 0:=fun l=>by
  by_cases hk:k<l.length
  · exact LR hk
  rw[Ar (by omega),Ar (by omega),Bw,Bs (by omega)];simp
 rw[tk,tk,Eh,Gt];generalize hx:a.getD k 0+b.getD k 0+c=x;have e:65536^k*(x%65536)+65536^k*(65536*(x / 65536))=65536^k*x:=by rw[<-Er,Nat.mod_add_div]
 have e2:65536^k*x=65536^k*a.getD k 0+65536^k*b.getD k 0+65536^k*c:=by rw[<-hx,Er,Er]
 omega
end Go.sK
namespace Go.aI
section
variable {p:Nat->V} {N:Nat}
theorem jd (p:Nat->V) (a b c:Nat):aT (vec p c b) (vec p c a)=neg (aT (vec p a b) (vec p a c)):=by simp only[vec,aT,sub,neg];apply V.ext'<;>simp only <;>grind
theorem Uh (u w:V):dot (aT u w) w=0:=by simp only[dot,aT];grind
theorem Pu {u w:V} (h:dot u w=0):dot (gJ u) w=0:=by
 by_cases hu:u=V0
 · subst hu;rw[Rk];simp[dot,V0]
 have h1:=AF u w;rw[h] at h1;exact eK (c:=(gE u:Int)) (by have :=uI hu;omega) h1
theorem Yc (p:Nat->V) (a b c:Nat):fB p c b a=(neg (fB p a b c).1,-(fB p a b c).2):=by unfold fB;rw[jd p a b c,JJ,oZ];have h:=Pu (Uh (vec p a b) (vec p a c));rw[nL] at h;rw[show dot (gJ (aT (vec p a b) (vec p a c))) (p c)=dot (gJ (aT (vec p a b) (vec p a c))) (p a) by omega]
theorem ie {a b c:Nat} {q:V×Int} (h:q∈iS p c b a):q∈iS p a b c:=by
 unfold iS at h ⊢;rw[Yc] at h;split at h
 · cases h
 rename_i hz;rw[if_neg (fun e=>hz (by rw[e];rfl))];simp only[Ap,Br,Dq,neg_neg,Int.neg_neg] at h ⊢
 rcases h with h|h
 · exact .inr h
 exact .inl h
def iV (p:Nat->V) (N:Nat) (i j k:Nat) (K:List (V×Int)):Prop:=
 ∀a b c,a<b->b<c->c<N->rQ i j k a b c->∀q∈iS p a b c,pP p N q.1 q.2->q∈K
theorem iV.zero:iV p N 0 0 0 []:=fun a b c _ _ _ h=>by unfold rQ at h;omega
theorem iV.j0 {i:Nat} {K:List (V×Int)} (h:iV p N i 0 0 K):iV p N i (i+1) 0 K:=fun a b c h1 h2 h3 hb q hq F=>h a b c h1 h2 h3 (by unfold rQ at *;omega) q hq F
theorem iV.k0 {i j:Nat} {K:List (V×Int)} (h:iV p N i j 0 K):iV p N i j (j+1) K:=fun a b c h1 h2 h3 hb q hq F=>h a b c h1 h2 h3 (by unfold rQ at *;omega) q hq F
theorem iV.kN {i j:Nat} {K:List (V×Int)} (h:iV p N i j N K):iV p N i (j+1) 0 K:=fun a b c h1 h2 h3 hb q hq F=>h a b c h1 h2 h3 (by unfold rQ at *;omega) q hq F
theorem iV.jN {i:Nat} {K:List (V×Int)} (h:iV p N i N 0 K):iV p N (i+1) 0 0 K:=fun a b c h1 h2 h3 hb q hq F=>h a b c h1 h2 h3 (by unfold rQ at *;omega) q hq F
theorem iV.step {i j k:Nat} {K K':List (V×Int)} (h:iV p N i j k K) (hs:∀q∈K,q∈K') (hn:∀q∈iS p i j k,pP p N q.1 q.2->q∈K'):iV p N i j (k+1) K':=fun a b c h1 h2 h3 hb q hq F=>by
 by_cases e:a=i/\b=j/\c=k
 · obtain⟨rfl,rfl,rfl⟩:=e;exact hn q hq F
 exact hs q (h a b c h1 h2 h3 (by unfold rQ at *;omega) q hq F)
theorem iV.all {K:List (V×Int)} (h:iV p N N 0 0 K) (hK:∀q∈K,pP p N q.1 q.2) (q:V×Int):q∈K↔pP p N q.1 q.2:=by refine⟨hK q,fun F=>?_⟩;obtain⟨i,j,k,h1,h2,h3,hc⟩:=gC F;exact h k j i h1 h2 h3 (.inl (by omega)) q (ie hc) F
end
section
variable {p:Nat->V} {N:Nat}
def okF (p:Nat->V) (N:Nat) (q:V×Int):Bool:=((List.range N).all fun k=>decide (dot q.1 (p k)<=q.2))&&(List.range N).any fun k=>decide (dot q.1 (p k)<q.2)
theorem cq {q:V×Int}:okF p N q=true↔(∀k,k<N->dot q.1 (p k)<=q.2)/\∃k,k<N/\dot q.1 (p k)<q.2:=by simp only[okF,Am,Aw,Bu,Ba,Bg]
def ltV (a b:V):Bool:=decide (a.x<b.x)||(decide (a.x=b.x)&&(decide (a.y<b.y)||(decide (a.y=b.y)&&decide (a.z<b.z))))
theorem bu {a b:V}:ltV a b=true↔iI a b:=by simp only[ltV,iI,Dp,Am,Bg]
def aHn:List (V×Int)->Bool
 |[]=>true
 |q::r=>(r.all fun x=>ltV q.1 x.1)&&aHn r
theorem du:∀{S:List (V×Int)},aHn S=true->S.Pairwise fun a b=>iI a.1 b.1
 |[],_=>.nil
 |q::r,h=>by simp only[aHn,Am,Aw] at h;exact Cl.2 ⟨fun x hx=>bu.1 (h.1 x hx),du h.2⟩
def ig (p:Nat->V) (N:Nat) (S:List (V×Int)):Bool:=
 aHn S&&(S.all fun q=>okF p N q&&(List.range N).any fun i=>(List.range i).any fun j=>(List.range j).any fun k=>(iS p i j k).contains q)&&
 ((List.range N).all fun i=>(List.range i).all fun j=>(List.range j).all fun k=>(iS p i j k).all fun q=> !okF p N q||S.contains q)
theorem HM {S:List (V×Int)} (h:ig p N S=true):oV p N S:=by
 simp only[ig,Am] at h;obtain⟨⟨h1,h2⟩,h3⟩:=h;refine⟨fun q=>⟨fun hq=>?_,fun hF=>?_⟩,du h1⟩
 · have :=Aw.1 h2 q hq;simp only[Am,Bu,Ba] at this;obtain⟨ho,i,hi,j,hj,k,hk,hc⟩:=this;obtain⟨le,lt⟩:=cq.1 ho;exact xY (i:=i) (j:=j) (k:=k) hi (by omega) (by omega) (by simpa using hc) le lt
 obtain⟨i,j,k,hk,hj,hi,hc⟩:=gC hF;simp only[Aw,Ba] at h3;have :=h3 i hi j hj k hk q hc;rw[cq.2 ⟨hF.le,hF.lt⟩] at this;simpa using this
def aAg (on:List Nat) (f:Nat->Nat):List Nat:=match on with
 |[]=>[]
 |s::_=>(List.range (match (List.range on.length).find? (fun i=>iter f (i+1) s==s) with|some i=>i+1|none=>0)).map fun i=>iter f i s
theorem aGu {n:V} {d:Int} {L:List Nat} (h:Poly p N n d L):L=aAg (kA p N n d) (uR n p (kA p N n d)):=by
 obtain⟨s,r,m,e,W,rfl⟩:=h.ex
 have Ll:(List.range (kA p N n d).length).find? (fun i=>iter (uR n p (kA p N n d)) (i+1) s==s)=some (m -1):=by have hp:=W.pos;have hle:=W.le;rw[List.find?_eq_some_iff_getElem];refine⟨by rw[show m -1+1=m by omega,Da];exact W.back,m -1,by rw[Bp];omega,by rw[Ht],fun j hj=>?_⟩;rw[Ht];have :=W.first (j+1) (by omega) (by omega);simpa using this
 unfold aAg;generalize hf:uR n p (kA p N n d)=f at *;generalize kA p N n d=on at *;subst e;simp only;rw[Ll];have hp:=W.pos;rw[show(match some (m -1) with|some i=>i+1|none=>0)=m from by show m -1+1=m;omega]
end
end Go.aI
namespace Go.Av
open Go
inductive Wk:AV->AV->Prop
 |refl (a:AV):Wk a a
 |aU (tag sz:Nat) (els AG:List (List AV)) (hl:AG.length=els.length) (hs:(∀e∈els,e.length=sz)->∀e∈AG,e.length=sz) (hf:AG.flatten.length=els.flatten.length)
   (h:∀j,j<els.flatten.length->Wk (els.flatten.getD j aD) (AG.flatten.getD j aD)):Wk (.aU tag sz els) (.aU 0 sz AG)
 |agg (cs MJ:List AV) (hl:MJ.length=cs.length) (h:∀j,j<cs.length->Wk (cs.getD j aD) (MJ.getD j aD)):Wk (.agg cs) (.agg MJ)
theorem Wk.one {a b:AV} (h:Wk a b):b.one=a.one:=by cases h<;>rfl
theorem VR.wk {G:Gh} {w:World} {a b:AV} (h:Wk a b):∀{u:Value},VR G w a u->VR G w b u:=by
 induction h with
 |refl a=>exact fun h=>h
 |aU tag sz els AG hl hs hf hj ih=>
  intro u hv
  cases hv with
  |vP _ _ b o s ht=>obtain rfl:AG=[]:=Cw hl;exact .vP _ _ b o s (by omega)
  |aU _ _ _ b o cap us hu hc hv ht=>rw[<-hl];refine .aU 0 sz AG b o cap us (hs hu) (fun j GA=>?_) (fun j GA=>ih j (by omega) (hv j (by omega))) ⟨by rw[hl];exact ht.1,trivial⟩;have Mj:j<els.flatten.length:=(by omega);exact⟨(hc j Mj).1,(hc j Mj).2.1,by rw[(hj j Mj).one];exact(hc j Mj).2.2⟩
 |agg cs MJ hl hj ih=>
  intro u hv
  cases hv with
  |agg _ vs II h1 hv=>refine .agg MJ vs (by omega) (fun c hc=>?_) fun j GA=>ih j (by omega) (hv j (by omega));obtain⟨j,GA,rfl⟩:=Dm hc;have Mj:j<cs.length:=(by omega);have :=(hj j Mj).one;simp only[List.getD,Ab GA,Ab Mj,Bi] at this;rw[this];exact h1 _ (Ac Mj)
theorem Sound.wk {P:Program} {g:bB} {f:FuncId} {args tl:List AV} {H H':aA} {out:Out} (h:Sound P g f tl H out H') (hl:tl.length=args.length) (hw:∀j,j<args.length->Wk (args.getD j aD) (tl.getD j aD)):Sound P g f args H out H':=
 ⟨h.1,fun G w vs hG hv=>h.2 G w vs hG ⟨by rw[hl];exact hv.1,fun j hj=>VR.wk (hw j (by omega)) (hv.2 j (by omega))⟩⟩
mutual
def fgt:AV->AV
 |.aU _ sz els=>.aU 0 sz (AI els)
 |.agg cs=>.agg (tP cs)
 |a=>a
def tP:List AV->List AV
 |[]=>[]
 |x::r=>fgt x::tP r
def AI:List (List AV)->List (List AV)
 |[]=>[]
 |x::r=>tP x::AI r
end
theorem AJ:∀l:List AV,(tP l).length=l.length
 |[]=>by simp[tP]
 |x::r=>by simp[tP,AJ r]
theorem Qt:∀l:List (List AV),(AI l).length=l.length
 |[]=>by simp[AI]
 |x::r=>by simp[AI,Qt r]
theorem ES:∀l:List (List AV),(AI l).flatten=tP l.flatten
 |[]=>by simp[AI,tP]
 |x::r=>by
  have :∀a b:List AV,tP (a++b)=tP a++tP b:=fun a b=>by
   induction a with
   |nil=>simp[tP]
   |cons y a ih=>simp[tP,ih]
  simp[AI,ES r,this]
theorem Qu {sz:Nat}:∀{l:List (List AV)},(∀e∈l,e.length=sz)->∀e∈AI l,e.length=sz
 |[],_,e,he=>by simp[AI] at he
 |x::r,h,e,he=>by
  simp only[AI,Ap] at he
  rcases he with rfl|he
  · rw[AJ];exact h x Ax
  exact Qu (fun y hy=>h y (Ay _ hy)) e he
theorem BZ:∀(l:List AV) (j:Nat),j<l.length->(tP l).getD j aD=fgt (l.getD j aD)
 |[],j,hj=>absurd hj (As _)
 |x::r,0,_=>by simp[tP]
 |x::r,j+1,hj=>by have :=BZ r j (by simpa using hj);simpa [tP] using this
theorem DO {l:List AV} {j:Nat} (hj:j<l.length):l.getD j aD∈l:=by rw[show l.getD j aD=l[j] by simp[List.getD,hj]];exact Ac hj
theorem ZI (a:AV):Wk a (fgt a):=by
 match a with
 |.aU tag sz els=>rw[fgt];refine .aU tag sz els _ (Qt els) Qu (by rw[ES,AJ]) fun j hj=>?_;rw[ES,BZ _ _ hj];have hm:=DO hj;generalize els.flatten.getD j aD=x at *;obtain⟨e,he,hx⟩:=Iq.1 hm;have h1:=Jw he;have h2:=Jw hx;exact ZI _
 |.agg cs=>rw[fgt];refine .agg cs _ (AJ cs) fun j hj=>?_;rw[BZ _ _ hj];have hm:=DO hj;generalize cs.getD j aD=x at *;have h2:=Jw hm;exact ZI _
 |.bool _|.int _ _|.str _|.LD|.ref _ _|.pl _|.aS|.sl _ _ _ _ _|.func _ _ _|.AX|.iface _ _|.wZ|.jR _|.map _|.rX|.yield _=>simp only[fgt];exact .refl _
termination_by SizeOf.sizeOf a
decreasing_by
 · simp only[AV.aU.sizeOf_spec];omega
 simp only[AV.agg.sizeOf_spec];omega
theorem Sound.fgt {P:Program} {g:bB} {f:FuncId} {args:List AV} {H H':aA} {out:Out} (h:Sound P g f (tP args) H out H'):Sound P g f args H out H':=
 h.wk (AJ _) fun j hj=>by rw[BZ _ _ hj];exact ZI _
section
theorem VR.mo {G:Gh} {w:World} {a:AV} {u:Value} (h:VR G w a u) (b:Bool):VR ⟨G.loc,G.gV,b⟩ w a u:=h.mono (fun _ _ h=>h) (fun _ _ h=>⟨h,rfl⟩)
section
variable {P:Program} {g g':bB}
theorem Sound.up (hv:∀n cs,g n=some cs->g' n=some cs) (hm:g.mo=true) (Xv:g'.mo=false) {f:FuncId} {args:List AV} {out:Out} (h:Sound P g f args ⟨0,.nil⟩ out ⟨0,.nil⟩):Sound P g' f args ⟨0,.nil⟩ out ⟨0,.nil⟩:=by
 refine⟨h.1,fun G w vs hw lH=>?_⟩
 have Pg:WR g ⟨G.loc,G.gV,true⟩ ⟨0,.nil⟩ w:={
  cells:=fun id l cs eI h1 h2=>by obtain⟨a1,a2,a3,a4,a5⟩:=hw.cells id l cs eI h1 h2;exact⟨a1,a2,a3,a4,fun j hj=>let⟨u,hu,hv⟩:=a5 j hj;⟨u,hu,hv.mo true⟩⟩
  room:=hw.room
  kT:=hw.kT
  jY:=hw.jY
  iM:=fun id l o h1 h2 h3=>by cases h2
  lt:=hw.lt
  iR:=hw.iR
  jA:=fun n cs hn=>(hw.jA n cs (hv n cs hn)).mo true
  CA:=fun n cs hn h0=>hw.CA n cs (hv n cs hn) h0
  mo:=hm.symm}
 refine(h.2 ⟨G.loc,G.gV,true⟩ w vs Pg ⟨lH.1,fun j hj=>(lH.2 j hj).mo true⟩).mono fun e w' ⟨G',h1,h2,h3⟩=>?_;have hG:G.mo=false:=hw.mo.trans Xv
 refine⟨⟨G'.loc,G'.gV,false⟩,{
  cells:=fun id l cs eI q1 q2=>by obtain⟨a1,a2,a3,a4,a5⟩:=h1.cells id l cs eI q1 q2;exact⟨a1,a2,a3,a4,fun j hj=>let⟨u,hu,hv⟩:=a5 j hj;⟨u,hu,hv.mo false⟩⟩
  room:=h1.room
  kT:=h1.kT
  jY:=h1.jY
  iM:=fun id l o q1 q2 q3=>by cases q2
  lt:=h1.lt
  iR:=h1.iR
  jA:=fun n cs hn=>(hw.jA n cs hn).mono h2.loc h2.gV
  CA:=fun n cs hn h0=>by obtain⟨c,el,fz,a1,a2⟩:=hw.CA n cs hn h0;refine⟨c,el,fz,?_,a2⟩;rw[h2.frame n (Ck.1 a1).1 (fun id l _ ⟨o,ho,_⟩=>by cases ho)];exact a1
  mo:=Xv.symm},{
  loc:=h2.loc
  gV:=h2.gV
  size:=h2.size
  frame:=h2.frame
  lR:=h2.lR
  pH:=h2.pH
  next:=h2.next
  news:=h2.news
  dead:=h2.dead
  mo:=hG.symm
  same:=⟨h2.same.os,h2.same.output,h2.same.tape,fun hb=>by rw[hG] at hb;cases hb⟩},?_⟩
 cases out with
 |ret v=>cases e with
  |returned u=>exact h3.mo false
  |_=>exact h3.elim
 |KC v=>cases e with
  |panicked c=>obtain⟨u,a,b⟩:=h3;exact⟨u,a,b.mo false⟩
  |_=>exact h3.elim
end
end
section
theorem aHq (nw tag:Nat):FW none nw tag=FW none 0 tag:=by
 match tag with
 |0=>rfl
 |1=>rfl
 |k+2=>rfl
theorem WO (H:aA) (nw:Nat) (v:AV):fU H none nw v=fU H none 0 v:=by cases v<;>simp only[fU,aHq nw]
theorem FG {f f':AV->Option AV} (h:∀x,f x=f' x):∀l,MV f l=MV f' l
 |[]=>rfl
 |x::r=>by simp only[MV,h x,FG h r]
theorem PL (H:aA) (nw:Nat):∀(n:Nat) (v:AV),gK H none nw n v=gK H none 0 n v
 |0,v=>by cases v<;>exact WO H nw _
 |n+1,v=>by
  cases v with
  |agg cs=>simp only[gK,FG (PL H nw n) cs]
  |jR cs=>simp only[gK,FG (PL H nw n) cs]
  |_=>exact WO H nw _
abbrev Fact:=FuncId×List AV×AV
def kn (f:FuncId) (args:List AV):List Fact->Option AV
 |[]=>none
 |e::r=>match Nat.beq f e.1 with
  |true=>match rL (tP args) e.2.1 with
   |true=>some e.2.2
   |false=>kn f args r
  |false=>kn f args r
def xJ (P:Program) (g:bB) (K:List Fact):Prop:=∀e∈K,∀H,Sound P g e.1 e.2.1 H (.ret e.2.2) H
def aGm (K:List Fact) (o:MH):MH:=fun f args H=>match kn f args K with
 |some v=>some (.ret v,H)
 |none=>o f args H
def ran (g:bB) (T:FT) (Ws:MH) (JC:FuncId->Nat->Bool) (n:Nat) (e:Fact):Bool:=
 match bL e.2.1 with
 |true=>match exF Ws T.get g 100000 JC 40 (.func (.func e.1) [] []) e.2.1 ⟨0,.nil⟩ with
  |some (.ret u,H2)=>match gK H2 none 0 n u with
   |some v=>v.same e.2.2
   |none=>false
  |_=>false
 |false=>false
section
variable {P:Program} {g:bB}
theorem yw {f:FuncId} {args:List AV} {v:AV}:∀{K:List Fact},xJ P g K->kn f args K=some v->∀H,Sound P g f args H (.ret v) H
 |[],_,h,_=>by cases h
 |e::r,hK,h,H=>by
  have hr:xJ P g r:=fun x hx=>hK x (Ay _ hx);simp only[kn] at h;split at h
  · rename_i hf;split at h
    · rename_i hs;cases h;obtain rfl:=Bh hf;exact Sound.fgt (by rw[nJ _ _ hs];exact hK e Ax H)
    exact yw hr h H
  exact yw hr h H
theorem aGn {K:List Fact} (hK:xJ P g K) {o:MH} (ho:LV P g o):LV P g (aGm K o):=by
 intro f args H out H' h;unfold aGm at h;split at h
 · rename_i v hv;cases h;exact yw hK hv H
 exact ho _ _ _ _ _ h
theorem aSq (hm:Fit P g) (hg:CZ g) {T:FT} (hT:T.rn fun f F=>∃mu,kP P g mu f F) {Ws:MH} (ho:LV P g Ws) {JC:FuncId->Nat->Bool} (hn:Qc P g JC) {n:Nat} {e:Fact} (h:ran g T Ws JC n e=true) (H:aA):Sound P g e.1 e.2.1 H (.ret e.2.2) H:=by
 unfold ran at h;split at h
 · rename_i ha;split at h
   · rename_i u H2 he;split at h
     · rename_i v hv;obtain rfl:=AV.Tg _ _ h
       rcases KW hm ho hn (fun f F hF=>hT.get hF) 40 _ _ _ _ _ he with ⟨p,hp,hS⟩|⟨id,hc,_⟩
       · cases hp;simp only[Dw,Cd] at hS;exact hS.frame hg ha (tk:=none) (fun k hk=>by cases hk) (n:=n) H (by rw[PL];exact hv)
       cases hc
     cases h
   cases h
 cases h
def aKb:FuncId->Nat->Bool:=fun _ _=>false
theorem zm:Qc P g aKb:=fun _ _ h=>by cases h
theorem xJ.nil:xJ P g []:=fun e he=>by cases he
theorem xJ.cons {K:List Fact} (hK:xJ P g K) {f:FuncId} {args:List AV} {v:AV} (h:∀H,Sound P g f args H (.ret v) H):xJ P g ((f,args,v)::K):=fun e he=>by
 rcases Ap.1 he with rfl|he
 · exact h
 exact hK e he
theorem xJ.ran {K:List Fact} (hK:xJ P g K) (hm:Fit P g) (hg:CZ g) {T:FT} (hT:T.rn fun f F=>∃mu,kP P g mu f F) {o:MH} (ho:LV P g o) {JC:FuncId->Nat->Bool} (hn:Qc P g JC) (n:Nat) {e:Fact} (h:Av.ran g T (aGm K o) JC n e=true):xJ P g (e::K):=fun x hx=>by
 rcases Ap.1 hx with rfl|hx
 · exact aSq hm hg hT (aGn hK ho) hn h
 exact hK x hx
end
end
end Go.Av
namespace Go.Av
open Go Go.RowKit
section
def Sn (P:Program) (fl:TypeId->Option (List TypeId)):List Field->List TypeId->Option (List TypeId)
 |[],acc=>some acc
 |f::r,acc=>match fl f.type with
  |some ts=>if f.offset=acc.length/\P.cellsOf f.type=ts.length then Sn P fl r (acc++ts) else none
  |none=>none
def Uu (P:Program):Nat->TypeId->Option (List TypeId)
 |0,_=>none
 |d+1,t=>match P.underlying t with
  |some (.struct fs)=>match Sn P (Uu P d) fs.toList [] with
   |some ts=>if P.cellsOf t=ts.length then some ts else none
   |none=>none
  |some (.array n e)=>match Uu P d e with
   |some ts=>if P.cellsOf e=ts.length/\P.cellsOf t=n*ts.length/\0<ts.length then some (List.replicate n ts).flatten else none
   |none=>none
  |some (.int _)=>some [t]
  |some (.slice _)=>some [t]
  |some .string=>some [t]
  |_=>none
section
variable {H:Type} {enc:TypeId×Value->H} {P:Program} {w:World} {base:Nat} {spare:Nat->Bool} {held:Bool}
def pZ (enc:TypeId×Value->H) (P:Program) (w:World) (base:Nat) (spare:Nat->Bool) (held:Bool) (ts:List TypeId) (cs:List Value):Prop:=
 ∀(i:Nat) (u:TypeId),ts[i]?=some u->∃(v:Value) (m:Nat) (y:DataW H×List MemPlace),cs[i]?=some v/\DataW.trod enc P w base spare held m u [v]=some y
theorem DQ {ts us:List TypeId} {cs:List Value} (h1:pZ enc P w base spare held ts cs) (h2:pZ enc P w base spare held us (cs.drop ts.length)):pZ enc P w base spare held (ts++us) cs:=by
 intro i u h;by_cases hi:i<ts.length
 · rw[Ex hi] at h;exact h1 i u h
 rw[Fy (by omega)] at h;obtain⟨v,m,y,hv,hy⟩:=h2 _ u h;refine⟨v,m,y,?_,hy⟩;rw[Fx] at hv;rw[<-hv];congr 1;omega
theorem Lw {ts:List TypeId} {cs:List Value} (n:Nat) (h:pZ enc P w base spare held ts (cs.take n)):pZ enc P w base spare held ts cs:=by
 intro i u hu;obtain⟨v,m,y,hv,hy⟩:=h i u hu;refine⟨v,m,y,?_,hy⟩;rw[Hu] at hv;split at hv
 · exact hv
 cases hv
theorem DR {fl:TypeId->Option (List TypeId)} {n:Nat} {cs:List Value}
 (vN:∀(u:TypeId) (ts:List TypeId) (cs:List Value) (x:DataW H×List MemPlace),fl u=some ts->DataW.trod enc P w base spare held n u cs=some x->pZ enc P w base spare held ts cs):
 ∀(fs:List Field) (acc ts:List TypeId),Sn P fl fs acc=some ts->pZ enc P w base spare held acc cs->
  (∀f∈fs,∃x,DataW.trod enc P w base spare held n f.type ((cs.drop f.offset).take (P.cellsOf f.type))=some x)->pZ enc P w base spare held ts cs
 |[],acc,ts,h,ha,hf=>by obtain rfl:=Aa h;exact ha
 |f::r,acc,ts,h,ha,hf=>by
  unfold Sn at h;split at h
  · rename_i us hus;split at h
    · rename_i hc;obtain⟨x,hx⟩:=hf f (Ax ..);refine DR vN r _ ts h (DQ ha ?_) (fun g hg=>hf g (Ay _ hg));rw[<-hc.1];exact Lw _ (vN _ _ _ _ hus hx)
    cases h
  cases h
theorem Oz {e:TypeId} {n:Nat} {ts:List TypeId}:∀(k:Nat) (cs:List Value),(∀i,i<k->pZ enc P w base spare held ts ((cs.drop (i*ts.length)).take ts.length))->pZ enc P w base spare held (List.replicate k ts).flatten cs
 |0,cs,h=>by intro i u hu;simp at hu
 |k+1,cs,h=>by
  rw[Dy,Bx];refine DQ ?_ ?_
  · have :=h 0 (by omega);rw[Ja,Ef] at this;exact Lw _ this
  refine Oz (e:=e) (n:=n) k _ fun i hi=>?_;have :=h (i+1) (by omega);rw[Jf];rw[show ts.length+i*ts.length=(i+1)*ts.length by rw[Cn,Gp,Fq]];exact this
theorem oR:∀(d:Nat) {t:TypeId} {ts:List TypeId} {fuel:Nat} {cs:List Value} {x:DataW H×List MemPlace},Uu P d t=some ts->DataW.trod enc P w base spare held fuel t cs=some x->pZ enc P w base spare held ts cs
 |0,t,ts,fuel,cs,x,h,hx=>by cases h
 |d+1,t,ts,fuel,cs,x,h,hx=>by
  unfold Uu at h;split at h
  · rename_i fs ht;split at h
    · rename_i us hus;split at h
      · obtain rfl:=Aa h;obtain⟨xs,n,_,_,hl,RT,hf⟩:=DataW.trod_struct ht hx;refine DR (n:=n) (fun u ts cs x h1 h2=>oR d h1 h2) fs.toList [] us hus (fun i u hu=>by simp at hu) fun f hfm=>?_;obtain⟨i,hi,hif⟩:=Dm hfm;have :=hf i f (by rw[<-hif];simp);rw[this];have gR:i<xs.length:=(by rw[RT];simpa using hi);exact⟨_,Ab gR⟩
      cases h
    cases h
  · rename_i n e ht;split at h
    · rename_i us hus;split at h
      · rename_i hc;obtain rfl:=Aa h;obtain⟨xs,m,_,_,hl,RT,hf⟩:=DataW.trod_array ht hx;refine Oz (e:=e) (n:=m) n cs fun i hi=>?_;have :=hf i hi;rw[hc.1,Ab (by omega)] at this;exact oR d hus this
      cases h
    cases h
  · rename_i k ht;obtain rfl:=Aa h;obtain⟨n,rfl,_⟩:=DataW.trod_int ht hx;intro i u hu
    match i,hu with
    |0,hu=>exact⟨_,fuel,x,rfl,by simpa [<-Aa hu] using hx⟩
  · rename_i e ht;obtain rfl:=Aa h
    have hc:∃c,cs=[c]:=by
     rcases DataW.trod_slice ht hx with ⟨h,_⟩|⟨a,len,cap,_,_,_,_,h,_⟩
     · exact⟨_,h⟩
     exact⟨_,h⟩
    obtain⟨c,rfl⟩:=hc;intro i u hu
    match i,hu with
    |0,hu=>exact⟨_,fuel,x,rfl,by simpa [<-Aa hu] using hx⟩
  · rename_i ht;obtain rfl:=Aa h;obtain⟨z,rfl,_⟩:=DataW.trod_string ht hx;intro i u hu
    match i,hu with
    |0,hu=>exact⟨_,fuel,x,rfl,by simpa [<-Aa hu] using hx⟩
  cases h
theorem Ym {ts:List TypeId} {cs:List Value} (h:pZ enc P w base spare held ts cs) {i:Nat} {u:TypeId} (hu:ts[i]?=some u) (hk:P.underlying u=some .string):
 ∃z:ByteArray,cs[i]?=some (.string z)/\z.size<=maxLen:=by
 obtain⟨v,m,y,hv,hy⟩:=h i u hu;obtain⟨z,hz,_,hs⟩:=DataW.trod_string hk hy;refine⟨z,?_,hs⟩;rw[hv];simpa using hz
theorem fC {ts:List TypeId} {cs:List Value} (h:pZ enc P w base spare held ts cs) {i:Nat} {u:TypeId} {k:IntKind} (hu:ts[i]?=some u) (hk:P.underlying u=some (.int k)):
 ∃n,cs[i]?=some (.int k n)/\(Lit.int k n).wf=true:=by
 obtain⟨v,m,y,hv,hy⟩:=h i u hu;obtain⟨n,hn,_,hw⟩:=DataW.trod_int hk hy;refine⟨n,?_,hw⟩;rw[hv];simpa using hn
end
end
end Go.Av
namespace Go.Av
open Go Go.RowKit Go.ChangeShapes Go.WideShapes Go.ChangeAt Go.Deep
section
def nI (mo:Bool) (W:World):Gh:=⟨fun _=>none,fun b o=>∃v,W.cell? ⟨b,o,none⟩=some v,mo⟩
theorem aQi {g:bB} {W:World} (hg:∀n cs,g n=some cs->VR (nI g.mo W) W (.pl cs) (.pointer (some ⟨n,0,none⟩)))
 (hs:∀n cs,g n=some cs->cs≠[]->∃c el fz,W.heap[n]?=some (.cells c el fz)/\c.size=cs.length):WR g (nI g.mo W) ⟨0,.nil⟩ W where
 cells:=fun id l cs eI h=>by cases h
 room:=fun id l h=>by cases h
 kT:=fun id kG l l' _ h=>by cases h
 jY:=fun id l h=>by cases h
 iM:=fun id l es h=>by cases h
 lt:=fun id l h=>by cases h
 iR:=fun b o h=>h
 jA:=hg
 CA:=hs
 mo:=rfl
theorem HP {mo:Bool} {W W':World} {G':Gh} {H':aA} (h:Ext (nI mo W) ⟨0,.nil⟩ W G' H' W') {b:Nat} (hb:b<W.heap.size):W'.heap[b]?=W.heap[b]?:=
 h.frame b hb fun id l hl=>by cases hl
theorem ou {w:World} {a:Addr} {v:Value} (h:w.cell? a=some v):a.spot=none:=World.cell?_spot h
theorem th (b o j:Nat):(Addr.mk b o none).add j=⟨b,o+j,none⟩:=by
 unfold Addr.add;split
 · rename_i h;rw[h];rfl
 rfl
section
variable {H:Type} {enc:TypeId×Value->H} {P:Program} {w:World} {base:Nat} {held:Bool}
end
theorem Xk {mo:Bool} {W W':World} {G':Gh} {H':aA} (h:Ext (nI mo W) ⟨0,.nil⟩ W G' H' W') (a:Addr) (ha:a.block<W.heap.size):W'.frozen? a=W.frozen? a:=by simp only[World.frozen?,HP h ha]
theorem yt {mo:Bool} {W W':World} {G':Gh} {H':aA} (h:Ext (nI mo W) ⟨0,.nil⟩ W G' H' W') (may:MemPlace->Prop):W.keptBut W' may:=by
 refine⟨h.same.1,h.same.2,fun i hi=>?_⟩;rw[HP h hi]
 cases W.heap[i]? with
 |none=>rfl
 |some o=>
  cases o with
  |cells c t fr=>exact⟨rfl,rfl,rfl,fun _ _=>rfl⟩
  |map es clock=>exact .inr ⟨rfl,rfl⟩
  |_=>rfl
section
variable {H:Type} {enc:TypeId×Value->H} {P:Program}
theorem Vp {mo:Bool} {f:Func} {s:ChangeSpec} {apart fresh handsOn again:Bool} {W W':World} {args:Array Value} {v:Value} {ds gs:List (DataW H)} {before pa pv:List MemPlace} {G':Gh} {H':aA}
 (hE:Ext (nI mo W) ⟨0,.nil⟩ W G' H' W')
 (hW:DataW.Whole enc P f.params.toList s.vars apart W args.toList ds gs before)
 (aFb:∀(b:Nat) (sp:Nat->Bool) (hd:Bool),DataW.TrodAll enc P W' b sp hd f.resultTypes.toList (v.resultList f.resultTypes.size) (s.fn H (ds++gs)).results [])
 (Ns:∀sp:Nat->Bool,(∀p∈before,sp p.block=true)->DataW.TrodAll enc P W' 0 sp true f.params.toList args.toList (s.fn H (ds++gs)).args pa)
 (aJa:∀sp:Nat->Bool,(∀p∈before,sp p.block=true)->DataW.TrodVars enc P W' sp s.vars (s.fn H (ds++gs)).vars pv)
 (GC:before=pa++pv)
 (pG:∀(j:Nat) (t:TypeId) (r:Value),f.resultTypes[j]?=some t->(v.resultList f.resultTypes.size)[j]?=some r->Value.okWide P W' .any 0 t r):
 s.post enc P f apart fresh handsOn again W args v W':=by
 have hold:∀p∈before,(fun b=>decide (b<W.heap.size)) p.block=true:=fun p hp=>by simpa using hW.lt p hp
 refine⟨ds,gs,before,[],pa,pv,hW,aFb _ _ _,Ns _ hold,aJa _ hold,yt hE _,fun _=>?_⟩;obtain⟨_,_,_,_,_,hz,hn⟩:=id hW;refine⟨pG,_,_,([]++pa)++pv,⟨[]++pa,pv,trodAll_append (Ns _ (fun _ _=>rfl)) (aFb _ _ _),aJa _ (fun _ _=>rfl),rfl,?_,?_⟩,?_⟩
 · intro b off hp;have hp':MemPlace.cell b off∈before:=by rw[GC];simpa using hp
   rw[Xk hE _ (hW.lt _ hp')];exact hz b off hp'
 · intro ha;have :=hn ha;rw[GC] at this;simpa using this
 intro p hp _;rw[GC];simpa using hp
end
end
end Go.Av
namespace Go.Av
section
def zP:=And.intro bBx (And.intro aBw bBy)
def zG:=And.intro bBx <| And.intro sy <| And.intro ik <| And.intro @AV.cells.eq_1 <| And.intro @AV.cells.eq_2 <| And.intro @AV.AS.eq_1 <| And.intro @AV.AS.eq_2 <| And.intro @xK.eq_1 <| And.intro @xK.eq_2 <| And.intro @xK.eq_3 <| And.intro @xK.eq_4 <| And.intro @xK.eq_5 <| And.intro @xK.eq_6 <| And.intro @unA.eq_1 <| And.intro @unA.eq_2 <| And.intro @unA.eq_3 <| And.intro @unA.eq_4 <| And.intro @unA.eq_5 <| And.intro @unA.eq_6 @fG.eq_1
def zI:=And.intro @aA.eW.eq_1 <| And.intro sh <| And.intro sn <| And.intro sl <| And.intro @fY.eq_1 <| And.intro @HJ.eq_1 <| And.intro @HJ.eq_2 <| And.intro @Ky.eq_1 <| And.intro @Ky.eq_2 <| And.intro Is <| And.intro Gm <| And.intro @false_implies <| And.intro @implies_true.{0} <| And.intro @implies_true.{1} <| And.intro aTb <| And.intro iz <| And.intro cOl <| And.intro @AV.cells.eq_1 <| And.intro @AV.cells.eq_2 <| And.intro @AV.AS.eq_1 <| And.intro @AV.AS.eq_2 <| And.intro @xK.eq_1 <| And.intro @xK.eq_2 <| And.intro @xK.eq_3 <| And.intro @xK.eq_4 <| And.intro @xK.eq_5 @xK.eq_6
def zD:=And.intro @eC.fresh.eq_1 <| And.intro @eC.fresh.eq_2 <| And.intro @eC.fresh.eq_3 <| And.intro @eC.fresh.eq_4 <| And.intro @eC.fresh.eq_5 <| And.intro @eC.fresh.eq_6 <| And.intro bHl <| And.intro bBz <| And.intro @ZR <| And.intro @eC.dG.eq_1 <| And.intro @eC.dG.eq_2 <| And.intro @eC.dG.eq_3 <| And.intro @eC.dG.eq_4 <| And.intro @eC.dG.eq_5 <| And.intro @AO.eq_1 <| And.intro @AO.eq_2 <| And.intro @AO.eq_3 <| And.intro @AO.eq_4 <|
 And.intro @false_implies <| And.intro @implies_true.{0} <| And.intro @implies_true.{1} <| And.intro @forall_const.{0} <| And.intro @forall_const.{1} <| And.intro @Jz <| And.intro @and_true <| And.intro @Br.{0} <| And.intro @Ap.{0} <| And.intro @Dq <| And.intro @false_or <| And.intro @Ah.{0,0} <| And.intro @forall_eq.{1} <| And.intro @forall_eq_or_imp.{1} <| And.intro @forall_eq'.{1} @Ad.{0}
def zR:=And.intro @sJ.eq_1 <| And.intro @sJ.eq_2 <| And.intro @QP.eq_1 <| And.intro @QP.eq_2 <| And.intro zG zI
def zB:=And.intro aBw <| And.intro @ne_eq.{1} @Ia
theorem tB {p q:Prop} [Decidable p] [Decidable q] (h:p↔q):True/\True/\AV.bool (decide p)=AV.bool (decide q):=⟨trivial,trivial,Bc AV.bool (Bb.2 h)⟩
theorem Rx {rs:List GH} {R:Out->aA->Prop} {f:dD} {H:aA} {vs:List AV} (hR:R (.ret (mY vs)) H) (hv:sJ f H rs=some vs:=by(simp only[↓zP,zR,seval];rfl)):MZ rs R .ret f [] H:=⟨rfl,vs,hv,hR⟩
def zJ:=And.intro zG zI
def zM:=And.intro sm <| And.intro @Iw.{0} @and_true
theorem wI {z y:Int} (h: -2^63<=z/\z<2^63/\z=y):IntKind.i64.wrap z=y:=by rw[wrap_i64 h.1 h.2.1];exact h.2.2
theorem eL (h:aA) (s t:Nat) (x:List AV):cQ h s (.aU t s [x])=some [x]:=by simp[cQ]
theorem Dz {P:Program} {g:bB} {n:Nat} {f:dD} {ds:List gH} {H:aA} {Q:FQ} {pairs:List (Nat×Nat)} {rl:List bD} (h:eX P g n pairs H.next 0 0 rl [] [] f H fun f' H'=>Q .normal f' ds H') (h0:rl.countP (·.op.fresh)=0:=by decide):FC P g n (.draw rl pairs) f ds H Q:=UL h0 h
structure Kt (P:Program) (g:bB) (n:Nat) (b:cD) (Q:FQ) (f:dD) (ds:List gH) (H:aA):Prop where
 h:FC P g n b f ds H Q
theorem aY {P:Program} {g:bB} {n:Nat} {b:cD} {Q:FQ} {f f':dD} {ds:List gH} {H H':aA} (hf:f=f') (hH:H=H'):Kt P g n b Q f ds H=Kt P g n b Q f' ds H':=by rw[hf,hH]
theorem bR {P:Program} {g:bB} {n:Nat} {b:cD} {Q:FQ} {f:dD} {ds:List gH} {H:aA} (h:FC P g n b f ds H Q):Kt P g n b Q f ds H:=⟨h⟩
theorem bQ {P:Program} {g:bB} {n:Nat} {a b:cD} {Q:FQ} {f:dD} {ds:List gH} {H:aA} (h:FC P g n a f ds H (gZ (Kt P g n b Q) Q)):FC P g n (.seq a b) f ds H Q:=by
 rw[ZQ];refine iY (fun e f ds H hq=>?_) h
 cases e with
 |normal=>exact hq.h
 |_=>exact hq
theorem fM {P:Program} {g:bB} {n:Nat} {a b:cD} {Q:FQ} {f:dD} {ds:List gH} {H:aA} (h:FC P g n a f ds H (gZ (Kt P g n b Q) Q)):Kt P g n (.seq a b) Q f ds H:=⟨bQ h⟩
section
variable {P:Program} {g:bB} {n:Nat} {f:dD} {H:aA} {d:Nat} {pS:FuncId} {azs:List Arg} {args:List AV} {v:AV} {H':aA}
theorem bW {r:List bD} {ds:List gH} {Q:FQ} (hS:Sound P g pS args H (.ret v) H') (h:bY P g n r (jM f d v) ds H' Q) (hd:d<n:=by decide) (ha:azs.map (nY g f)=args:=by simp only[sm,aBw,Nat.reduceEqDiff,fG]):
 bY P g n (⟨some d,.call (.const (.func (.func pS) [] [])) azs,none⟩::r) f ds H Q:=fp hd ha hS h
theorem eE {pairs:List (Nat×Nat)} {base i k:Nat} {rs:List bD} {rd:List (Nat×Nat)} {ef:List (Nat×aA×aA)} {R:dD->aA->Prop} (hS:Sound P g pS args H (.ret v) H')
 (h:eX P g n pairs base (i+1) k rs rd ((i,H,H')::ef) (jM f d v) H' R) (hd:d<n:=by decide) (ha:azs.map (nY g f)=args:=by simp only[sm,aBw,ne_eq,Nat.reduceEqDiff,Ia]) (hn:H.next<=H'.next:=by exact Ak _)
 (hr:∀x∈rd,(x.1,i)∈pairs->H.get x.2=H'.get x.2:=by exact fun _ _ _=>rfl):eX P g n pairs base i k (⟨some d,.call (.const (.func (.func pS) [] [])) azs,none⟩::rs) rd ef f H R:=nA hd ha hS hn hr h
end
end
end Go.Av
namespace Go.Av
open Go
section
section
variable {P:Program} {g:bB}
end
end
section
section
variable {P:Program} {g:bB} {rl:List bD} {pj:Option Nat} {pairs:List (Nat×Nat)} {s0:List AV} {H0:aA} {Hs:Nat->aA} {ss:Nat->List AV} {vs:Nat->AV}
variable {n:Nat} {f:dD} {ds:List gH} {H:aA} {Q:FQ}
end
end
end Go.Av
namespace Go.Proofs.YtndkpgceodimiaaGreatDoor
open Go Go.Av
def bCl:Nat->Option (List AV):=fun _=>none
def gv:bB:=mkG Tryz.prog bCl
theorem fit:Fit Tryz.prog gv:=b9 (by kernel_rfl)
theorem eU:CZ gv:=fun n cs h=>by cases h
abbrev Sg (f:FuncId) (args:List AV) (H:aA) (out:Out) (H':aA):Prop:=Sound Tryz.prog gv f args H out H'
abbrev CW (f:Go.Func):={x:BR // LA Tryz.prog gv false f=some x}
theorem cH {k:FuncId} {f:Go.Func} (h:Tryz.prog.funcs[k]?=some f) (W:CW f) (h2:(f.name== "runtime.NumGoroutine")=false:=by kernel_rfl):kP Tryz.prog gv false k W.1:=iZ h h2 W.2
abbrev Fi (k:FuncId) {f:Go.Func} (W:CW f):=kP Tryz.prog gv false k W.1
theorem Sp {mu:Bool} {k:FuncId} {F:BR} (hF:kP Tryz.prog gv mu k F) {args:List AV} {v:AV} (ha:bL args=true) (hv:v.free=true)
 (h:FC Tryz.prog gv F.ntmps F.body (fG args) [] ⟨0,.nil⟩ (MZ F.results fun o _=>o=.ret v)) (H:aA) (hl:args.length<=F.ntmps:=by exact Aj rfl):Sound Tryz.prog gv k args H (.ret v) H:=
 EF fit eU hF hl ha hv h H
theorem So {mu:Bool} {k:FuncId} {F:BR} (hF:kP Tryz.prog gv mu k F) {args:List AV} {v:AV} (ha:bL args=true)
 (h:FC Tryz.prog gv F.ntmps F.body (fG args) [] ⟨0,.nil⟩ (MZ F.results fun o _=>o=.ret v)) (H:aA) (hv:v.free=true:=by simp only[sf,sfI,cE]) (hl:args.length<=F.ntmps:=by exact Aj rfl):Sound Tryz.prog gv k args H (.ret v) H:=
 EF fit eU hF hl ha hv h H
theorem cL {g:bB} {mu:Bool} {fn:Go.Func} {F:BR} (h:(LA Tryz.prog g mu fn).isSome=true:=by kernel_rfl) (hx:mkX Tryz.prog g mu fn=some F:=by conv=>lhs;cbv):LA Tryz.prog g mu fn=some F:=zh h hx
def mkY (P:Program) (g:bB) (mu:Bool) (fn:Go.Func) (c:Code):Option BR:=
 match dU P g mu c,uU P fn.results.toList with
  |some b,some r=>some ⟨fn.ntmps,r,b⟩
  |_,_=>none
theorem Mq {g:bB} {mu:Bool} {fn:Go.Func} {F:BR} {b:Code} (hb:fn.body=some b:=by exact rfl) (h:(LA Tryz.prog g mu fn).isSome=true:=by kernel_rfl) (hx:mkY Tryz.prog g mu fn b=some F:=by
 conv=>lhs;unfold mkY;simp only[ax]
 (try conv in (occs:= *) lY _ _ _ _ _=>all_goals cbv)
 (try simp only[Bz])
 (try conv in (occs:= *) sW _ _=>all_goals cbv)
 conv=>lhs;cbv):LA Tryz.prog g mu fn=some F:=zh h (by unfold mkX;rw[hb];exact hx)
theorem kQ {f:FuncId} {mu:Bool} {F:BR} (hF:kP Tryz.prog gv mu f F) {args:List AV} (ha:args.length<=F.ntmps) {H H':aA} {out:Out}
 (h:FC Tryz.prog gv F.ntmps F.body (fG args) [] H (MZ F.results fun o h=>o=out/\h=H')) (hdt:F.body.dJ=true:=by first|rfl|decide):Sound Tryz.prog gv f args H out H':=by
 obtain⟨_,_,⟨rfl,rfl⟩,hS⟩:=eD fit hF ha h hdt;exact hS
def upC:List AV:=[.int .i64 0,.int .i64 0,.int .i64 1]
def Np (n:Nat):Option (List AV):=match Nat.beq n 0 with
 |true=>some upC
 |false=>match Nat.beq n 999999999 with
  |true=>some []
  |false=>none
def DH:bB:=mkG Tryz.prog Np
abbrev St (f:FuncId) (args:List AV) (H:aA) (out:Out) (H':aA):Prop:=Sound Tryz.prog DH f args H out H'
theorem aTp:Fit Tryz.prog DH:=b9 (by kernel_rfl)
theorem Xm:CZ DH:=fun n cs h=>by
 have h:Np n=some cs:=h;unfold Np at h;split at h
 · cases h;rfl
 split at h
 · cases h;rfl
 cases h
theorem moT:DH.mo=false:=rfl
theorem Wt {f:FuncId} {args:List AV} {v:AV} (ha:bL args=true) (hv:v.free=true) (h:∀H,Sg f args H (.ret v) H) (H:aA):Sound Tryz.prog DH f args H (.ret v) H:=
 (Sound.up (g:=gv) (g':=DH) (fun n cs h=>by cases h) rfl moT (h ⟨0,.nil⟩)).frame Xm ha (tk:=none) (fun k hk=>by cases hk) (n:=0) H (xG hv)
theorem aTd {K:List Fact} (h:xJ Tryz.prog gv K) (hf:(K.all fun e=>bL e.2.1&&e.2.2.free)=true):xJ Tryz.prog DH K:=fun e he H=>by have :=Aw.1 hf e he;rw[Am] at this;exact Wt this.1 this.2 (h e he) H
def aCo:CW Tryz.f109:=⟨_,cL⟩
theorem aJb:Fi 109 aCo:=cH Tryz.func109 aCo
def W80:CW Tryz.f80:=⟨_,cL⟩
theorem bAw:Fi 80 W80:=cH Tryz.func80 W80
def W79:CW Tryz.f79:=⟨_,cL⟩
theorem bAv:Fi 79 W79:=cH Tryz.func79 W79
def W48:CW Tryz.f48:=⟨_,cL⟩
theorem bAq:Fi 48 W48:=cH Tryz.func48 W48
def W25:CW Tryz.f25:=⟨_,cL⟩
theorem aZa:Fi 25 W25:=cH Tryz.func25 W25
def W27:CW Tryz.f27:=⟨_,cL⟩
theorem aRr:Fi 27 W27:=cH Tryz.func27 W27
def W28:CW Tryz.f28:=⟨_,cL⟩
theorem aZl:Fi 28 W28:=cH Tryz.func28 W28
attribute [local congr] aV aO aP aL aX aR aQ aH aY
attribute [local irreducible] FC bY eX
def iC (l:List Int):List AV:=l.map (AV.int .i64)
theorem cN (l:List Int):(iC l).length=l.length:=Ai _
theorem gT {l:List Int} {i:Nat} (h:i<l.length):(iC l).getD i aD=.int .i64 (l.getD i 0):=by simp[iC,h]
theorem jC (l:List Int):bL (iC l)=true:=by
 induction l with
 |nil=>rfl
 |cons x l ih=>simp only[iC,Bv,bL,AV.free,Cr];exact ih
theorem rC {l:List Int} {i:Nat} (h:i<l.length):l.getD i 0∈l:=by simp[h]
def iD (l:List Int):Nat:=l.foldl (fun o x=>Nat.gcd o x.natAbs) 0
theorem jt {l:List Int} {i:Nat} (h:i<l.length):iD (l.take (i+1))=Nat.gcd (iD (l.take i)) (l.getD i 0).natAbs:=by unfold iD;rw[Al,Gz];simp[h]
theorem HQ {B:Nat}:∀{l:List Int} {o:Nat},(∀x∈l,x.natAbs<=B)->o<=B->l.foldl (fun o x=>Nat.gcd o x.natAbs) o<=B
 |[],o,_,h=>h
 |x::l,o,hl,h=>HQ (l:=l) (fun y hy=>hl y (Ay _ hy)) (by
   have hx:=hl x Ax
   rcases Hr o with h0|h0
   · subst h0;show Nat.gcd 0 _<=B;rw[Gw];exact hx
   exact Cb (Nat.gcd_le_left _ h0) h)
theorem aEp {id:Nat} {l:List Int} {o:Bool} (h4:l.length=4) (hl:∀x∈l,x.natAbs<=64) {H:aA} (hg:H.get id=some (.cells (iC l) o)):
 Sg 109 [.sl id 1 0 4 4] H (.ret (.int .i64 (iD l:Nat))) H:=by
 refine kQ aJb (Aj rfl) ?_ (by rfl);unfold aCo;dsimp only;refine bQ ?_;simp only[↓zP,zG,seval];refine fM ?_;simp only[↓zP,zG,seval];refine bR ?_;refine aG fun K hK=>?_;refine bQ ?_;simp only[↓zP,zJ,seval];refine bR ?_;refine bO [3] (fun i vs H'=>H'=H/\vs=[.int .i64 (iD (l.take i):Nat)]) 4 (by omega) (by decide) ?_ ?_ ?_ ?_ ?_
 · simp only[zB,seval]
 · simp only[zB,seval]
 · exact⟨rfl,by simp only[sm,zB,seval];rfl⟩
 · rintro i f H1 hi hk e1 ⟨rfl,hv⟩;simp only[zM] at hv;have gR:i<l.length:=by omega
   have hx:=hl _ (rC gR);have hd:=gT gR;have hlen:i+1<=(iC l).length:=(by rw[cN];omega);have CT:iD (l.take i)<=64:=HQ (fun x hx=>hl x (By hx)) (by decide);rw[jt gR];generalize l.getD i 0=x at *;generalize iD (l.take i)=o1 at *;refine aF ?_;refine bQ ?_;simp only[↓zP,zJ,seval,e1,hk 7 rfl,aB,hi,hg,hlen,hd];refine bR ?_;have xu:IntKind.i64.wrap (0 -x)= -x:=wI (by omega);have ql:(if -x>x then -x else x)=(x.natAbs:Int):=(by split<;>omega);refine bQ ?_;simp only[↓zP,zG,seval,xu,ql];refine bR ?_;refine aF (iG [3,6] (fun m vs H'=>H'=H1/\∃a b:Nat,vs=[.int .i64 (a:Nat),.int .i64 (b:Nat)]/\a<=64/\b<=64/\m=b/\Nat.gcd a b=Nat.gcd o1 x.natAbs) x.natAbs (by rfl) ?_ ?_)
   · exact⟨rfl,o1,x.natAbs,by simp only[sm,zB,seval,hv],CT,hx,rfl,rfl⟩
   rintro m f2 H2 dP ⟨rfl,a,b,pU,ha,hb,rfl,hgc⟩;simp only[zM] at pU;obtain⟨v3,v6⟩:=pU;by_cases h0:m=0
   · subst h0;simp only[↓zP,zJ,seval,v3,v6];exact⟨trivial,by rw[<-hgc,Nat.gcd_zero_right]⟩
   have hz:((m:Int) != 0)=true:=(by rw[Dc];omega);have QL:¬((m:Int)=0):=(by omega);have ht:Int.tmod (a:Int) (m:Int)=((a%m:Nat):Int):=rfl;refine bQ ?_;simp only[↓zP,zG,seval,v6,hz];refine bR ?_;refine aF ?_;refine Dz ?_;simp only[↓zP,zJ,seval,zD,v3,v6,QL,ht];have eZ:=Dg a (show 0<m by omega);exact⟨a%m,eZ,m,a%m,rfl,hb,by omega,rfl,by rw[<-hgc,Ie a m,Nat.gcd_rec m a,Ie]⟩
 rintro f H1 hk ⟨rfl,hv⟩;simp only[zM] at hv;simp only[↓zP,seval];apply hK;clear hK K;simp only[↓zP,zG,seval,hv];refine Rx ?_;rw[Ar (by omega)];exact⟨rfl,rfl⟩
theorem gU (b:Bool) (A B:Prop):jK aD b A B=B:=rfl
def yY (l:List Int):Prop:=∀x∈l,-2^63<=x/\x<2^63
def IX (l:List Int):Bool:=l.all fun x=>decide (-64<=x/\x<=64)
theorem bt {l:List Int} (h:IX l=true):∀x∈l,x.natAbs<=64:=fun x hx=>by have :=Cc (Aw.1 h x hx);omega
theorem aFp {l:List Int} (h4:l.length=4) (hl:yY l) (H:aA):Sg 79 [.agg (iC l)] H (.ret (.bool (IX l))) H:=by
 refine So bAv (by simp only[sf,jC]) ?_ H;unfold W79;dsimp only;have hlen:(iC l).length=4:=by rw[cN,h4]
 refine bQ ?_;simp only[↓zP,zJ,seval];refine bR ?_;refine aG fun K hK=>?_;refine bQ ?_;simp only[↓zP,zJ,seval,oL hlen];refine bR ?_;refine fJ [] (fun i vs H'=>∀x∈l.take i,-64<=x/\x<=64) 4 (by omega) rfl (by decide) ?_ ?_ ?_ ?_
 · simp only[zB,seval]
 · intro x hx;simp at hx
 · rintro i f H1 hi hk e1 bM;have gR:i<l.length:=by omega
   have hm:=rC gR;have hx:=hl _ hm;have hd:=gT gR;have f5:f 5=.agg (iC l):=hk 5 rfl;have hle:i+1<=(iC l).length:=by rw[hlen];omega
   have iE:(-64<=l.getD i 0/\l.getD i 0<=64)->∀x∈l.take (i+1),-64<=x/\x<=64:=fun h x hx=>by
    rw[Al,An] at hx
    rcases hx with hx|hx
    · exact bM x hx
    simp[gR] at hx;subst hx;simpa [gR] using h
   have eM:¬(-64<=l.getD i 0/\l.getD i 0<=64)->IX l=false:=fun h=>by unfold IX;rw[Ec];exact⟨_,hm,by rw[Ae h];decide⟩
   generalize l.getD i 0=x at *;obtain⟨y,hy⟩:∃y,IntKind.i64.wrap (0 -x)=y:=⟨_,rfl⟩
   have hyx:(x= -2^63/\y=x)\/(x≠-2^63/\y= -x):=by
    by_cases c:x= -2^63
    · refine .inl ⟨c,?_⟩;subst c;rw[<-hy];rfl
    refine .inr ⟨c,?_⟩;rw[<-hy,wrap_i64 (by omega) (by omega)];omega
   refine aF ?_;refine bQ ?_;simp only[↓zP,zJ,seval,e1,f5,aB,hi,hle,hd];refine bR ?_;obtain⟨m,hm2⟩:∃m,(if y>x then y else x)=m:=⟨_,rfl⟩;have hmm:m=x/\y<=x\/m=y/\x<y:=(by rw[<-hm2];split<;>omega);refine aG fun K2 bK=>?_;by_cases c1:m>64
   · have d1:=Af c1;simp only[↓zP,zG,seval,hy,hm2,d1,gU];apply bK;clear bK K2;simp only[↓zP,zG,seval];refine Rx ?_;rw[eM (by omega)];rfl
   have d1:=Ae c1;by_cases c2:x=y
   · have d2:(x==y)=true:=(by rw[Da];exact c2);by_cases c3:x=0
     · have d3:(x != 0)=false:=(by rw[c3];rfl);simp only[↓zP,zG,seval,hy,hm2,d1,d2,d3];apply bK;clear bK K2;simp only[↓zP,zG,seval];exact iE (by omega)
     have d3:(x != 0)=true:=(by rw[Dc];exact c3);simp only[↓zP,zG,seval,hy,hm2,d1,d2,d3];apply bK;clear bK K2;simp only[↓zP,zG,seval];refine Rx ?_;rw[eM (by omega)];rfl
   have d2:(x==y)=false:=(by rw[Ce];exact c2);simp only[↓zP,zG,seval,hy,hm2,d1,d2];apply bK;clear bK K2;simp only[↓zP,zG,seval];exact iE (by omega)
 rintro f H1 hk bM;simp only[↓zP,seval];apply hK;clear hK K;simp only[↓zP,zG,seval];refine Rx ?_
 have :IX l=true:=by unfold IX;rw[Aw];exact fun x hx=>Af (bM x (by rw[Ar (by omega)];exact hx))
 rw[this];rfl
def DS (l:List Int):Int:=match l.find? (fun x=>x != 0) with
 |some x=>if x<0 then -(iD l:Int) else iD l
 |none=>iD l
def rU (l:List Int):Option (List Int):=if iD l=0 then none else some (l.map fun x=>x.tdiv (DS l))
theorem dp (l:List Int):(DS l).natAbs=iD l:=by
 unfold DS;split
 · split<;>omega
 omega
theorem RG {l:List Int} (h:∀x∈l,x=0):iD l=0:=by
 unfold iD
 induction l with
 |nil=>rfl
 |cons x l ih=>rw[Hq,h x Ax];exact ih fun y hy=>h y (Ay _ hy)
theorem Qw:∀{l:List Int} {i:Nat},(∀x∈l.take i,x=0)->i<l.length->l.getD i 0≠0->l.find? (fun x=>x != 0)=some (l.getD i 0)
 |[],_,_,hi,_=>absurd hi (As _)
 |x::l,0,_,_,hx=>by have hx:x≠0:=hx;rw[Jo (by simpa using hx)];rfl
 |x::l,i+1,h,hi,hx=>by have h0:x=0:=h x (by simp);rw[List.find?_cons_of_neg (by simp[h0])];exact Qw (l:=l) (fun y hy=>h y (by simp[hy])) (by simpa using hi) hx
theorem Tk {H:aA} {id n sz off:Nat} {cs:List AV} {o:Bool} (hg:H.get id=some (.cells cs o)) (hn:0<n) (hl:off+n*sz<=cs.length):mO H n sz (.ref id off) none none none=some (.sl id sz off n n):=by unfold mO;simp[aA.eW,hg,hl];omega
theorem aEg {l:List Int} (h4:l.length=4) (hl:∀x∈l,x.natAbs<=64) (H:aA):
 Sg 80 [.agg (iC l)] H (.ret (.jR [.agg (iC ((rU l).getD [0,0,0,0])),.bool (rU l).isSome])) H:=by
 refine Sp bAw (by simp only[sf,jC]) (by simp only[AV.free,bL,jC];rfl) ?_ H;unfold W80;dsimp only;have hlen:(iC l).length=4:=by rw[cN,h4]
 refine bQ ?_;simp only[↓zP,zJ,seval];refine bR ?_;generalize hX:((aA.mk 0 .nil).alloc _).alloc _=HA;have g0:HA.get 0=some (.cells (iC l) false):=by subst hX;simp only[zI,seval]
 have g1:HA.get 1=some (.cells [.int .i64 0,.int .i64 0,.int .i64 0,.int .i64 0] false):=by subst hX;simp only[zI,seval]
 clear hX;refine dT fun f hf=>?_;have f1:f 1=.ref 0 0:=by subst hf;simp only[zB,seval]
 have f2:f 2=.ref 1 0:=by subst hf;simp only[zB,seval]
 clear hf;refine bQ ?_;simp only[↓zP,zG,seval,f1,dQ,Tk g0 (show 0<4 by decide) (show 0+4*1<=(iC l).length by omega)];refine bW (aEp h4 hl g0) ?_;simp only[↓zP,zG,seval];refine fM ?_;by_cases hz:iD l=0
 · have hd:((iD l:Int)==0)=true:=by rw[Da];omega
   simp only[↓zP,zJ,seval,hd,f2,g1];refine⟨rfl,_,by simp only[↓zP,zR,seval,f2];rfl,?_⟩;have :rU l=none:=(by unfold rU;rw[if_pos hz]);rw[this];rfl
 have hd:((iD l:Int)==0)=false:=by rw[Ce];omega
 simp only[↓zP,zG,seval,hd];refine bR ?_;have hsg:=dp l;have bDd:iD l<=64:=HQ hl (by decide);refine aG fun K hK=>?_
 have key:∀f:dD,f 1=.ref 0 0->f 2=.ref 1 0->f 4=.int .i64 (DS l)->K f [] HA:=by
  intro f f1 f2 f4;apply hK;clear hK K;refine aG fun K hK=>?_;refine bQ ?_;simp only[↓zP,zG,seval];refine bR ?_;refine fJ [] (fun i vs H'=>H'.get 0=some (.cells (iC ((l.take i).map (fun x=>x.tdiv (DS l))++l.drop i)) false)/\H'.get 1=some (.cells [.int .i64 0,.int .i64 0,.int .i64 0,.int .i64 0] false)) 4 (by omega) rfl (by decide) ?_ ?_ ?_ ?_
  · simp only[zB,seval]
  · exact⟨g0,g1⟩
  · rintro i f3 H1 hi hk e1 ⟨m0,m1⟩;have gR:i<l.length:=by omega
    have f31:f3 1=.ref 0 0:=(by rw[hk 1 rfl];simp only[zB,seval];exact f1);have f34:f3 4=.int .i64 (DS l):=(by rw[hk 4 rfl];simp only[zB,seval];exact f4);have hx:=hl _ (rC gR);have lE:¬(DS l=0):=(by omega);have xL:((l.take i).map (fun x=>x.tdiv (DS l))++l.drop i).length=4:=by simp;omega
    have hd:(iC ((l.take i).map (fun x=>x.tdiv (DS l))++l.drop i)).getD i aD=.int .i64 (l.getD i 0):=by rw[gT (by omega),Bw,Fy (by simp;omega)];simp[Jq (Nat.le_of_lt gR)]
    have hle:i+1<=(iC ((l.take i).map (fun x=>x.tdiv (DS l))++l.drop i)).length:=by rw[cN,xL];omega
    have hw:IntKind.i64.wrap ((l.getD i 0).tdiv (DS l))=(l.getD i 0).tdiv (DS l):=by have :=Int.natAbs_tdiv_le_natAbs (l.getD i 0) (DS l);exact wrap_i64 (by omega) (by omega)
    have ya:fY (iC ((l.take i).map (fun x=>x.tdiv (DS l))++l.drop i)) i [.int .i64 ((l.getD i 0).tdiv (DS l))]=iC ((l.take (i+1)).map (fun x=>x.tdiv (DS l))++l.drop (i+1)):=by have hm:((l.take i).map (fun x=>x.tdiv (DS l))).length=i:=(by simp;omega);have h0:l.getD i 0=l[i]:=(by simp[gR]);unfold fY iC;rw[Al,Ab gR,h0];simp only[Cf,En,List.map_take,List.map_drop,Fv,Bv,Fg,Aq,Bj];rw[Co (by simp;omega),Ft,Ii (by simp;omega),Ar (by simp;omega)];simp;omega
    refine aF ?_;refine bQ ?_;simp only[↓zP,zG,seval,e1];refine bR ?_;simp only[↓zP,zJ,seval,f31,f34,aB,hi,m0,m1,hle,hd,lE,hw];exact⟨Bc (fun x=>some (fE.cells x false)) ya,trivial⟩
  rintro f3 H1 hk ⟨m0,m1⟩;have f31:f3 1=.ref 0 0:=by rw[hk 1 rfl];simp only[zB,seval];exact f1
  have f32:f3 2=.ref 1 0:=by rw[hk 2 rfl];simp only[zB,seval];exact f2
  simp only[↓zP,seval];apply hK;clear hK K
  have hq:(iC (List.map (fun x=>x.tdiv (DS l)) (List.take 4 l)++List.drop 4 l))=iC (l.map fun x=>x.tdiv (DS l)):=by rw[Ar (by omega),Bt (by omega),Cd]
  have Wm:(iC (l.map fun x=>x.tdiv (DS l))).length=4:=by rw[cN,Ai,h4]
  simp only[↓zP,zJ,seval,f31,f32,m0,m1,hq,oL Wm];refine⟨rfl,_,by simp only[↓zP,zR,seval,f32,oL Wm];rfl,?_⟩;have :rU l=some (l.map fun x=>x.tdiv (DS l)):=by unfold rU;rw[if_neg hz]
  rw[this];rfl
 refine bQ ?_;simp only[↓zP,zJ,seval,f1,g0,oL hlen];refine bR ?_;refine fJ [4] (fun i vs H'=>H'=HA/\vs=[.int .i64 (iD l:Nat)]/\∀x∈l.take i,x=0) 4 (by omega) rfl (by decide) ?_ ?_ ?_ ?_
 · simp only[zB,seval]
 · exact⟨rfl,by simp only[sm,zB,seval],fun x hx=>by simp at hx⟩
 · rintro i f3 H1 hi hk e1 ⟨rfl,hv,bM⟩;simp only[zM] at hv;have gR:i<l.length:=by omega
   have f31:f3 1=.ref 0 0:=(by rw[hk 1 rfl];simp only[zB,seval];exact f1);have f32:f3 2=.ref 1 0:=(by rw[hk 2 rfl];simp only[zB,seval];exact f2);have f313:f3 13=.agg (iC l):=hk 13 rfl;have hd:=gT gR;have hle:i+1<=(iC l).length:=by rw[hlen];omega
   have iE:l.getD i 0=0->∀x∈l.take (i+1),x=0:=fun h x hx=>by
    rw[Al,An] at hx
    rcases hx with hx|hx
    · exact bM x hx
    simp[gR] at hx;subst hx;simpa [gR] using h
   have hfd:=Qw bM gR
   have bEj:∀h:l.getD i 0≠0,DS l=if l.getD i 0<0 then -(iD l:Int) else iD l:=fun h=>by unfold DS;rw[hfd h]
   generalize l.getD i 0=x at *;refine aF ?_;refine bQ ?_;simp only[↓zP,zJ,seval,e1,f313,aB,hi,hle,hd];refine bR ?_;refine aG fun K2 bK=>?_;by_cases c1:x=0
   · have d1:(x != 0)=false:=(by rw[c1];rfl);simp only[↓zP,zG,seval,d1];apply bK;clear bK K2;simp only[↓zP,zJ,seval,hv];exact⟨trivial,trivial,iE c1⟩
   have d1:(x != 0)=true:=(by rw[Dc];exact c1);have hsx:=bEj c1;simp only[↓zP,zG,seval,d1];apply bK;clear bK K2;by_cases c2:x<0
   · have d2:=Af c2;have hw:IntKind.i64.wrap (0 -(iD l:Int))= -(iD l:Int):=wI (by omega);rw[if_pos c2] at hsx;simp only[↓zP,zG,seval,d2,hv,hw];exact key _ (by simp only[zB,seval];exact f31) (by simp only[zB,seval];exact f32) (by simp only[zB,seval];rw[hsx])
   have d2:=Ae c2;rw[if_neg c2] at hsx;simp only[↓zP,zG,seval,d2];exact key _ (by simp only[zB,seval];exact f31) (by simp only[zB,seval];exact f32) (by simp only[zB,seval];rw[hsx];exact hv)
 rintro f3 H1 hk ⟨rfl,hv,bM⟩;simp only[zM] at hv;refine absurd ?_ hz;have h0:∀x∈l,x=0:=fun x hx=>bM x (by rw[Ar (by omega)];exact hx);exact RG h0
def qO (l:List Int):Bool:=IX l&&(rU l==some l)
theorem uW:∀{n:Nat} {l m:List Int},l.length=n->m.length=n->cJ (List.replicate n Sk.i) (iC l) (iC m)=some (decide (l=m))
 |0,[],[],_,_=>rfl
 |n+1,x::l,y::m,h,h'=>by have ih:=uW (n:=n) (l:=l) (m:=m) (by simpa using h) (by simpa using h');simp only[Bv,iC,Dy,cJ,if_true] at ih ⊢;rw[ih];simp only[Bz,Ad,Iw];rw[Cg];simp
theorem pd {l:List Int} (h4:l.length=4) (hl:yY l) (H:aA):Sg 48 [.agg (iC l)] H (.ret (.bool (qO l))) H:=by
 refine So bAq (by simp only[sf,jC]) ?_ H;unfold W48;dsimp only;have hlen:(iC l).length=4:=by rw[cN,h4]
 have lo:=aFp h4 hl;refine bQ ?_;simp only[↓zP,zJ,seval];refine bR ?_;refine aG fun K hK=>?_;simp only[↓zP,zJ,seval,oL hlen];refine bW (lo _) ?_
 cases hb:IX l with
 |false=>simp only[↓zP,zJ,seval];refine Rx ?_;unfold qO;rw[hb];rfl
 |true=>
  simp only[↓zP,zJ,seval];apply hK;clear hK K;have hq:=aEg h4 (bt hb)
  have Wm:(iC ((rU l).getD [0,0,0,0])).length=4:=by
   rw[cN];unfold rU;split
   · rfl
   simp[h4]
  refine bQ ?_;simp only[↓zP,zJ,seval,oL hlen];refine bW (hq _) ?_;simp only[↓zP,zJ,seval,oL Wm];refine bR ?_;have VG:cJ [.i,.i,.i,.i] (iC ((rU l).getD [0,0,0,0])) (iC l)=some (decide ((rU l).getD [0,0,0,0]=l)):=uW (n:=4) (by rw[<-cN,Wm]) h4;have hv:qO l=(rU l==some l):=by unfold qO;rw[hb];rfl
  rw[hv]
  cases hdq:rU l with
  |none=>rw[hdq] at Wm;simp only[↓zP,zG,seval,Cj];refine Rx ?_;rfl
  |some d=>rw[hdq] at Wm VG;simp only[↓zP,zJ,seval,Bd,Bi];simp only[Bi] at VG Wm;simp only[zJ,seval,oL Wm,oL hlen,VG];refine Rx ?_;simp only[mY];congr 2;rw[Cg];simp
def iO (p:List Int):Int:=if(p.take 3).all (fun x=>decide (x<140737488355328/\x> -140737488355328))&&qO (p.drop 3) then 0 else 1
theorem mM (l:List Int) (n:Nat):(iC l).take n=iC (l.take n):=List.map_take.symm
theorem kU (l:List Int) (n:Nat):(iC l).drop n=iC (l.drop n):=List.map_drop.symm
theorem Ox {p:List Int} (h7:p.length=7) (hl:yY p) (H:aA):Sg 25 [.agg (iC p)] H (.ret (.int .i64 (iO p))) H:=by
 refine So aZa (by simp only[sf,jC]) ?_ H;unfold W25;dsimp only;have hlen:(iC p).length=7:=by rw[cN,h7]
 have h3:(p.take 3).length=3:=by simp;omega
 have h34:(p.drop 3).length=4:=by simp;omega
 have hv:=pd h34 (fun x hx=>hl x (Du hx));refine bQ ?_;simp only[↓zP,zJ,seval];refine bR ?_;refine aG fun K hK=>?_;refine bQ ?_;simp only[↓zP,zJ,seval,hlen,mM];refine bR ?_;generalize hX:(aA.mk 0 .nil).alloc _=HA;have g0:HA.get 0=some (.cells (iC p) false):=by subst hX;simp only[zI,seval]
 clear hX;refine fJ [] (fun i vs H'=>H'=HA/\∀x∈(p.take 3).take i,x<140737488355328/\x> -140737488355328) 3 (by omega) rfl (by decide) ?_ ?_ ?_ ?_
 · simp only[zB,seval]
 · exact⟨rfl,fun x hx=>by simp at hx⟩
 · rintro i f H1 hi hk e1 ⟨rfl,bM⟩;have gR:i<(p.take 3).length:=by omega
   have hm:=rC gR;have hd:=gT gR;have f6:f 6=.agg (iC (p.take 3)):=hk 6 rfl;have hle:i+1<=(iC (p.take 3)).length:=by rw[cN];omega
   have iE:(fun x:Int=>x<140737488355328/\x> -140737488355328) ((p.take 3).getD i 0)->∀x∈(p.take 3).take (i+1),x<140737488355328/\x> -140737488355328:=fun h x hx=>by
    rw[Al,An] at hx
    rcases hx with hx|hx
    · exact bM x hx
    rw[Ab gR] at hx;simp only[Fv,Bn] at hx;rw[Bw,Ab gR] at h;subst hx;exact h
   have eM:¬((p.take 3).getD i 0<140737488355328/\(p.take 3).getD i 0> -140737488355328)->iO p=1:=fun h=>by unfold iO;rw[if_neg];intro hh;rw[Am] at hh;exact h (Cc (Aw.1 hh.1 _ hm))
   generalize (p.take 3).getD i 0=x at *;refine aF ?_;refine bQ ?_;simp only[↓zP,zJ,seval,e1,f6,aB,hi,hle,hd];refine bR ?_;refine aG fun K2 bK=>?_;by_cases c1:x≥140737488355328
   · have d1:=Af c1;simp only[↓zP,zG,seval,d1];apply bK;clear bK K2;simp only[↓zP,zG,seval];refine Rx ?_;rw[eM (by omega)];rfl
   have d1:=Ae c1;by_cases c2:x<=-140737488355328
   · have d2:=Af c2;simp only[↓zP,zG,seval,d1,d2];apply bK;clear bK K2;simp only[↓zP,zG,seval];refine Rx ?_;rw[eM (by omega)];rfl
   have d2:=Ae c2;simp only[↓zP,zG,seval,d1,d2];apply bK;clear bK K2;simp only[↓zP,zG,seval];exact⟨trivial,iE ⟨by omega,by omega⟩⟩
 rintro f H1 hk ⟨rfl,bM⟩;rw[Ar (by omega)] at bM;have f1:f 1=.ref 0 0:=hk 1 rfl
 have hp:iO p=if qO (p.drop 3) then 0 else 1:=by unfold iO;rw[Aw.2 fun x hx=>Af (bM x hx)];rfl
 simp only[↓zP,seval];apply hK;clear hK K;refine aG fun K hK=>?_;have h47:3+4<=(iC p).length:=by omega
 have nM:((iC p).drop 3).take 4=iC (p.drop 3):=by rw[kU,mM,Ar (by omega)]
 simp only[↓zP,zJ,seval,f1,g0,h47,nM];refine bW (hv _) ?_
 cases hb:qO (p.drop 3) with
 |true=>rw[hb] at hp;simp only[↓zP,zJ,seval];apply hK;clear hK K;simp only[↓zP,zG,seval];refine Rx ?_;rw[hp];rfl
 |false=>rw[hb] at hp;simp only[↓zP,zJ,seval];refine Rx ?_;rw[hp];rfl
def aLe:CW Tryz.f129:=⟨_,cL⟩
theorem aVq:Fi 129 aLe:=cH Tryz.func129 aLe
def aLf:CW Tryz.f130:=⟨_,cL⟩
theorem aVs:Fi 130 aLf:=cH Tryz.func130 aLf
def W90:CW Tryz.f90:=⟨_,cL⟩
theorem bGs:Fi 90 W90:=cH Tryz.func90 W90
def W91:CW Tryz.f91:=⟨_,cL⟩
theorem bGt:Fi 91 W91:=cH Tryz.func91 W91
def W54:CW Tryz.f54:=⟨_,cL⟩
theorem bFs:Fi 54 W54:=cH Tryz.func54 W54
def W32:CW Tryz.f32:=⟨_,cL⟩
theorem bFd:Fi 32 W32:=cH Tryz.func32 W32
def W30:CW Tryz.f30:=⟨_,cL⟩
theorem bFb:Fi 30 W30:=cH Tryz.func30 W30
def W31:CW Tryz.f31:=⟨_,cL⟩
theorem bFc:Fi 31 W31:=cH Tryz.func31 W31
def W35:CW Tryz.f35:=⟨_,cL⟩
theorem bFe:Fi 35 W35:=cH Tryz.func35 W35
def W36:CW Tryz.f36:=⟨_,cL⟩
theorem bFf:Fi 36 W36:=cH Tryz.func36 W36
def W16:CW Tryz.f16:=⟨_,Mq⟩
theorem bEu:Fi 16 W16:=cH Tryz.func16 W16
end Go.Proofs.YtndkpgceodimiaaGreatDoor
