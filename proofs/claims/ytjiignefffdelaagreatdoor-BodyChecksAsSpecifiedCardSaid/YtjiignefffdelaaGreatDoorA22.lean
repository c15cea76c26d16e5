/-
  Parts of the proof of statement 4: AvYield, AvForK, AvBits, GeoJ, NumB, GeoK, GeoL, AvFgt
-/
import Derived.Test.YtjiignefffdelaaGreatDoorA18
import Derived.Test.YtjiignefffdelaaGreatDoorA21
import Derived.Test.YtjiignefffdelaaGreatDoorA19
set_option linter.unusedVariables false
set_option linter.unusedSimpArgs false
set_option linter.unusedSectionVars false
namespace Go.Av
open Go
section
section
variable {P:Program} {g:Genv} {n:Nat}
theorem ARound_of {k:LKey} {f:Slt} {id:Nat} {args:List AV} {H2 H3:Heap} {out:Out} (hb:FBnd n f) (h:FRound P g n k f id args H2 out H3):ARound P g k (LF n f) id args H2 out H3:=by
 unfold ARound;rw[qW];refine bZ (fun e s1 ds1 H1 hq=>?_) (gQ k.asg _ [] H2 _ (hb.putAll _) h);obtain⟨f1,rfl,hb1,hq⟩:=hq
 cases e with
 |normal=>
  obtain⟨h1,k1,sn1,h2,h3⟩:=hq;refine⟨h1,k1,sn1,h2,bZ (fun e s2 ds2 H4 hq=>?_) (gQ k.body _ [] _ _ hb1 h3)⟩;obtain⟨f2,rfl,hb2,hq⟩:=hq
  cases e with
  |panic v=>exact hq.elim
  |_=>exact hq
 |_=>exact hq.elim
theorem aEj (hm:Fit P g) {k:LKey} {f:Slt} {id:Nat} {args:List AV} {H2 H3:Heap} {out:Out} (hb:FBnd n f) (hget:H2.get id=some (.loop k (LF n f) .ready)) (hlen:args.length=k.ps.length) (h:FRound P g n k f id args H2 out H3):
 YSound P g id args H2 out H3:=qY hm hget hlen (ARound_of hb h)
def roundEndR (id:Nat) (R:Out→Heap→Prop):FQ
 |.normal,_,ds,H=>ds=[]∧∃k sn,H.get id=some (.loop k sn .busy)∧R (.ret (.bool true)) (H.set id (.loop k sn .ready))
 |.ret,_,ds,H=>ds=[]∧∃k sn,H.get id=some (.loop k sn .busy)∧R (.ret (.bool false)) (H.set id (.loop k sn (.done .ret)))
 |.exit i,_,ds,H=>ds=[]∧∃k sn,H.get id=some (.loop k sn .busy)∧R (.ret (.bool false)) (H.set id (.loop k sn (.done (.exit i))))
 |.panic _,_,_,_=>False
theorem aEk (hm:Fit P g) {k:LKey} {f:Slt} {id:Nat} {args:List AV} {H2:Heap} {R:Out→Heap→Prop} (hb:FBnd n f) (hget:H2.get id=some (.loop k (LF n f) .ready)) (hlen:args.length=k.ps.length) (hd1:k.asg.det=true) (hd2:k.body.det=true)
 (h:FC P g n k.asg (putAllF n f (k.ps.zip args)) [] H2 (thenF (fun f1 ds1 H1=>ds1=[]∧∃k1 sn1,H1.get id=some (.loop k1 sn1 .ready)∧FC P g n k.body f1 [] (H1.set id (.loop k1 sn1 .busy)) (roundEndR id R)) fun _ _ _ _=>False)):
 ∃out H3,R out H3∧YSound P g id args H2 out H3:=by
 obtain⟨ae,s',ds',H',⟨f1,rfl,hb1,hq⟩,hA2⟩:=oO hd1 (gQ k.asg _ [] H2 _ (hb.putAll _) h)
 cases ae with
 |normal=>
  obtain⟨rfl,k1,sn1,hg,hF⟩:=hq;obtain⟨be,s2,ds2,H4,⟨f2,rfl,hb2,hq2⟩,hB2⟩:=oO hd2 (gQ k.body _ [] _ _ hb1 hF)
  have fin:∀{out:Out} {H3:Heap},(∀s,roundEnd id out H3 be s ds2 H4)→YSound P g id args H2 out H3:=fun {out H3} hr=>by
   refine qY hm hget hlen ?_;unfold ARound;rw[qW];refine bZ (fun e s1 ds1 H1 he=>?_) hA2;obtain⟨rfl,rfl,rfl,rfl⟩:=he;refine⟨rfl,k1,sn1,hg,bZ (fun e s1 ds1 H1 he=>?_) hB2⟩;obtain⟨rfl,rfl,rfl,rfl⟩:=he;exact hr _
  cases be with
  |normal=>
   obtain⟨rfl,k2,sn2,hg2,hR⟩:=hq2;exact⟨_,_,hR,fin fun s=>⟨rfl,rfl,k2,sn2,hg2,rfl⟩⟩
  |ret=>
   obtain⟨rfl,k2,sn2,hg2,hR⟩:=hq2;exact⟨_,_,hR,fin fun s=>⟨rfl,rfl,k2,sn2,hg2,rfl⟩⟩
  |exit i=>
   obtain⟨rfl,k2,sn2,hg2,hR⟩:=hq2;exact⟨_,_,hR,fin fun s=>⟨rfl,rfl,k2,sn2,hg2,rfl⟩⟩
  |panic v=>exact hq2.elim
 |_=>exact hq.elim
variable {r:List ROper} {f:Slt} {ds:List Dfr} {H:Heap} {Q:FQ}
theorem nM {d:Nat} {c:Arg} {id:Nat} {azs:List Arg} {args:List AV} {v:AV} {H':Heap} (hd:d<n) (hc:evF g f c=.yield id) (ha:azs.map (evF g f)=args)
 (hS:YSound P g id args H (.ret v) H') (h:FOps P g n r (upd f d v) ds H' Q):FOps P g n (⟨some d,.call c azs,none⟩::r) f ds H Q:=by
 have :∀v,putF n f (some d) v=upd f d v:=fun v=>by simp[putF,hd]
 unfold FOps;simp only[wantedF,if_true,this];exact⟨.ret v,H',.inr ⟨id,hc,by rw[ha];exact hS⟩,h⟩
theorem FC_rangeF {c:Arg} {ps:List Nat} {asg body:ACode} {fid:FuncId} {fs cs:List AV} {v:AV} {He:Heap} {k':LKey} {s':List AV} {st:LSt} (hc:evF g f c=.func (.func fid) fs cs)
 (hS:Sound P g fid (fs++[.yield (H.next+1)]++cs) ((H.alloc .dfd).alloc (.loop ⟨ps,asg,body⟩ (LF n f) .ready)) (.ret v) He) (hl:He.get (H.next+1)=some (.loop k' s' st))
 (h:∀Hf,lessLoop He (H.next+1) Hf→loopEndF st f (.mark H.next::ds) Hf Q):FC P g n (.rangeF c ps asg body) f ds H Q:=by
 have hlt:∃Hf,lessLoop He (H.next+1) Hf:=⟨He.set (H.next+1) .dead,rfl,fun m=>by
  rw[Heap.aB]⟩
 obtain⟨Hf,hf⟩:=hlt;exact⟨fid,fs,cs,v,He,k',s',st,Hf,hc,hS,hl,hf,h Hf hf⟩
theorem nL {c:Arg} {ps:List Nat} {asg body:ACode} {fid:FuncId} {fs cs:List AV} (hc:evF g f c=.func (.func fid) fs cs)
 (h:∃v He k' s' st,Sound P g fid (fs++[.yield (H.next+1)]++cs) ((H.alloc .dfd).alloc (.loop ⟨ps,asg,body⟩ (LF n f) .ready)) (.ret v) He∧He.get (H.next+1)=some (.loop k' s' st)∧
   ∀Hf,lessLoop He (H.next+1) Hf→loopEndF st f (.mark H.next::ds) Hf Q):FC P g n (.rangeF c ps asg body) f ds H Q:=by
 obtain⟨v,He,k',s',st,h1,h2,h3⟩:=h;exact FC_rangeF hc h1 h2 h3
theorem FBnd.upd {n:Nat} {f:Slt} (h:FBnd n f) {d:Nat} (hd:d<n) (v:AV):FBnd n (upd f d v):=fun t ht=>by
 rw[eS _ _ (by omega)];exact h t ht
theorem FC_abs {c:ACode} {f0:Slt} {ds:List Dfr} {H0:Heap} {Q:FQ} (hb:FBnd n f0) (h:∀f H,FBnd n f→f=f0→H=H0→FC P g n c f ds H Q):FC P g n c f0 ds H0 Q:=h _ _ hb rfl rfl
theorem gH {c:ACode} {f0:Slt} {ds:List Dfr} {H:Heap} {Q:FQ} (h:∀f,f=f0→FC P g n c f ds H Q):FC P g n c f0 ds H Q:=h _ rfl
structure Over (H H':Heap):Prop where
 le:H.next≤H'.next
 same:∀j,j<H.next→H'.get j=H.get j
theorem Over.refl (H:Heap):Over H H:=⟨Nat.le_refl _,fun _ _=>rfl⟩
theorem Over.alloc {H H':Heap} (h:Over H H') (o:AObj):Over H (H'.alloc o):=⟨by simp only[Heap.aW];have :=h.le;omega,fun j hj=>by
 have :=h.le
 rw[Heap.aG,if_neg (by omega)];exact h.same j hj⟩
theorem Over.set {H H':Heap} (h:Over H H') {id:Nat} (hid:H.next≤id) (o:AObj):Over H (H'.set id o):=⟨by rw[Heap.aR];exact h.le,fun j hj=>by
 rw[Heap.aB,if_neg (by omega)];exact h.same j hj⟩
end
end
attribute [local congr] aM
section
section
variable {P:Program} {g:Genv} {n:Nat}
def fkOK (n c ix a b:Nat) (cs:List Nat) (ts B:ACode):Bool:=
 Nat.blt c n&&Nat.blt ix n&&Nat.blt a n&&Nat.blt b n&& !Nat.beq a ix&& !Nat.beq b ix&& !Nat.beq b a&& !memN ix ts.wr&& !memN ix B.wr&&B.nodef&& !memN a cs&& !memN b cs&& !memN ix cs&&cs.all (fun t=> !memN t ts.wr)
def fkW (ix a b:Nat) (ts B:ACode):List Nat:=a::b::ix::(ts.wr++B.wr)
theorem aHc {id c ix a b:Nat} {op:BinOp} {dz:Int} {ts B:ACode} {f:Slt} {ds:List Dfr} {H:Heap} {Q:FQ} (cs:List Nat) (J:Nat→List AV→Heap→Prop) (val:Nat→Int) (N:Nat)
 (hs:fkOK n c ix a b cs ts B=true) (hop:∀i,i<N→binI op .i64 (val i) .i64 dz=some (.int .i64 (val (i+1))))
 (h1:f ix=.int .i64 (val 0)) (h0:J 0 (cs.map f) H)
 (test:∀(i:Nat) (f':Slt) (H':Heap),i≤N→Keep (fkW ix a b ts B) f f'→f' ix=.int .i64 (val i)→J i (cs.map f') H'→FC P g n ts f' ds H' (thenF (fun f'' ds'' H''=>ds''=ds∧H''=H'∧f'' c=.bool (decide (i<N))) fun _ _ _ _=>False))
 (body:∀(i:Nat) (f':Slt) (H':Heap),i<N→Keep (fkW ix a b ts B) f f'→f' ix=.int .i64 (val i)→J i (cs.map f') H'→FC P g n B f' ds H' (thenF (fun f'' _ H''=>J (i+1) (cs.map f'') H'') (inBlockF id Q)))
 (done:∀(f':Slt) (H':Heap),Keep (fkW ix a b ts B) f f'→J N (cs.map f') H'→Q .normal f' ds H'):
 FC P g n (.block id (.loop (.seq (.seq ts (.cond (.tmp c) .skip (.exit id))) (.seq B
  (.ops [⟨some a,.mov (.tmp ix),none⟩,⟨some b,.bin op (.tmp a) (.const (.int .i64 dz)),none⟩,⟨some ix,.mov (.tmp b),none⟩]))))) f ds H Q:=by
 simp only[fkOK,Bool.and_eq_true,Bool.not_eq_true',Nat.blt_eq,List.all_eq_true] at hs;obtain⟨⟨⟨⟨⟨⟨⟨⟨⟨⟨⟨⟨⟨s1,s2⟩,s3⟩,s4⟩,s5⟩,s6⟩,s7⟩,t1⟩,b1⟩,b2⟩,c1⟩,c2⟩,c3⟩,c4⟩:=hs
 have ne:∀{a b:Nat},Nat.beq a b=false→a≠b:=fun h e=>by subst e;simp at h
 have subT:∀d∈ts.wr,d∈fkW ix a b ts B:=fun d hd=>by simp[fkW,hd]
 have subB:∀d∈B.wr,d∈fkW ix a b ts B:=fun d hd=>by simp[fkW,hd]
 have kpU:∀{f':Slt} {d:Nat} {v:AV},d∈fkW ix a b ts B→Keep (fkW ix a b ts B) f f'→Keep (fkW ix a b ts B) f (upd f' d v):=fun {f' d v} hd hk t ht=>by
  have hne:t≠d:=fun e=>gX.1 ht (by rw[e];exact hd);rw[eS _ _ hne];exact hk t ht
 refine FC_for (id:=id) (c:=c) (fun i f' H'=>Keep (fkW ix a b ts B) f f'∧f' ix=.int .i64 (val i)∧J i (cs.map f') H') N ⟨.rfl',h1,h0⟩ ?_ ?_ ?_
 · rintro i f' H' hi ⟨hk,e1,hj⟩ K hK Q'
   refine dF (fun e f2 ds2 H2 hh=>?_) (oS (test i f' H' hi hk e1 hj));obtain⟨k1,k2,k3⟩:=hh
   cases e with
   |normal=>
    obtain⟨rfl,rfl,k4⟩:=k3;refine⟨rfl,rfl,hK _ k4 ⟨hk.trans (k1.sub subT),by rw[k1 _ t1];exact e1,?_⟩⟩;have :cs.map f2=cs.map f':=List.map_congr_left fun t ht=>k1 t (by simpa using c4 t ht);rw[this];exact hj
   |_=>exact k3.elim
 · rintro i f' H' hi ⟨hk,e1,hj⟩
   refine dF (fun e f2 ds2 H2 hh=>?_) (oS (body i f' H' hi hk e1 hj));obtain⟨k1,k2,k3⟩:=hh
   cases e with
   |normal=>
    obtain rfl:=k2 b2;refine⟨rfl,?_⟩
    have e2:f2 ix=.int .i64 (val i):=by rw[k1 _ b1];exact e1
    have hk2:=hk.trans (k1.sub subB);rw[qT,oU _ _ s3];simp only[aop,cZ,e2,aY];rw[lA _ _ _ _ s4];simp only[aop,cZ,jF,gC,hop i hi,Option.map_some,aY];rw[oU _ _ s2];simp only[aop,cZ,aY,jD,cM,gC];refine⟨trivial,kpU (by simp[fkW]) (kpU (by simp[fkW]) (kpU (by simp[fkW]) hk2)),trivial,?_⟩;rw[pY c3,pY c2,pY c1];exact k3
   |_=>exact k3
 · rintro f' H' ⟨hk,e1,hj⟩
   exact done f' H' hk hj
theorem bA {id c ix a b:Nat} {ts B:ACode} {f:Slt} {ds:List Dfr} {H:Heap} {Q:FQ} (cs:List Nat) (J:Nat→List AV→Heap→Prop) (s N:Nat) (hsN:s≤N) (hN:N<2^63)
 (hs:fkOK n c ix a b cs ts B=true) (h1:f ix=.int .i64 s) (h0:J s (cs.map f) H)
 (test:∀(i:Nat) (f':Slt) (H':Heap),s≤i→i≤N→Keep (fkW ix a b ts B) f f'→f' ix=.int .i64 i→J i (cs.map f') H'→FC P g n ts f' ds H' (thenF (fun f'' ds'' H''=>ds''=ds∧H''=H'∧f'' c=.bool (decide (i<N))) fun _ _ _ _=>False))
 (body:∀(i:Nat) (f':Slt) (H':Heap),s≤i→i<N→Keep (fkW ix a b ts B) f f'→f' ix=.int .i64 i→J i (cs.map f') H'→FC P g n B f' ds H' (thenF (fun f'' _ H''=>J (i+1) (cs.map f'') H'') (inBlockF id Q)))
 (done:∀(f':Slt) (H':Heap),Keep (fkW ix a b ts B) f f'→J N (cs.map f') H'→Q .normal f' ds H'):
 FC P g n (.block id (.loop (.seq (.seq ts (.cond (.tmp c) .skip (.exit id))) (.seq B
  (.ops [⟨some a,.mov (.tmp ix),none⟩,⟨some b,.bin .add (.tmp a) (.const (.int .i64 1)),none⟩,⟨some ix,.mov (.tmp b),none⟩]))))) f ds H Q:=by
 refine aHc cs (fun i=>J (s+i)) (fun i=>((s+i:Nat):Int)) (N -s) hs (fun i hi=>?_) (by simpa using h1) (by simpa using h0) (fun i f' H' hi hk e1 hj=>?_) (fun i f' H' hi hk e1 hj=>?_) (fun f' H' hk hj=>?_)
 · simp only[binI,if_true]
   rw[wrap_i64 (by omega) (by omega)];simp only[Option.some.injEq,AV.int.injEq,true_and];omega
 · have h:=test (s+i) f' H' (by omega) (by omega) hk e1 hj
   rwa [show decide (s+i<N)=decide (i<N -s) from by rw[decide_eq_decide];omega] at h
 · have h:=body (s+i) f' H' (by omega) (by omega) hk e1 hj
   rwa [Nat.add_assoc] at h
 · have :s+(N -s)=N:=by omega
   simp only[this] at hj;exact done f' H' hk hj
theorem FC_forD {id c ix a b:Nat} {ts B:ACode} {f:Slt} {ds:List Dfr} {H:Heap} {Q:FQ} (cs:List Nat) (J:Nat→List AV→Heap→Prop) (N:Nat) (hN:N<2^63)
 (hs:fkOK n c ix a b cs ts B=true) (h1:f ix=.int .i64 ((N:Int) -1)) (h0:J N (cs.map f) H)
 (test:∀(i:Nat) (f':Slt) (H':Heap),i≤N→Keep (fkW ix a b ts B) f f'→f' ix=.int .i64 ((i:Int) -1)→J i (cs.map f') H'→FC P g n ts f' ds H' (thenF (fun f'' ds'' H''=>ds''=ds∧H''=H'∧f'' c=.bool (decide (0<i))) fun _ _ _ _=>False))
 (body:∀(i:Nat) (f':Slt) (H':Heap),i<N→Keep (fkW ix a b ts B) f f'→f' ix=.int .i64 i→J (i+1) (cs.map f') H'→FC P g n B f' ds H' (thenF (fun f'' _ H''=>J i (cs.map f'') H'') (inBlockF id Q)))
 (done:∀(f':Slt) (H':Heap),Keep (fkW ix a b ts B) f f'→J 0 (cs.map f') H'→Q .normal f' ds H'):
 FC P g n (.block id (.loop (.seq (.seq ts (.cond (.tmp c) .skip (.exit id))) (.seq B
  (.ops [⟨some a,.mov (.tmp ix),none⟩,⟨some b,.bin .sub (.tmp a) (.const (.int .i64 1)),none⟩,⟨some ix,.mov (.tmp b),none⟩]))))) f ds H Q:=by
 refine aHc cs (fun i=>J (N -i)) (fun i=>((N -i:Nat):Int) -1) N hs (fun i hi=>?_) (by simpa using h1) (by simpa using h0) (fun i f' H' hi hk e1 hj=>?_) (fun i f' H' hi hk e1 hj=>?_) (fun f' H' hk hj=>?_)
 · simp only[binI,if_true]
   rw[wrap_i64 (by omega) (by omega)];simp only[Option.some.injEq,AV.int.injEq,true_and];omega
 · have h:=test (N -i) f' H' (by omega) hk e1 hj
   rwa [show decide (0<N -i)=decide (i<N) from by rw[decide_eq_decide];omega] at h
 · have e:N -i=(N -(i+1))+1:=by omega
   have e1':f' ix=.int .i64 ((N -(i+1):Nat):Int):=by rw[e1];congr 1;omega
   have hj':J ((N -(i+1))+1) (cs.map f') H':=by rw[←e];exact hj
   exact body (N -(i+1)) f' H' (by omega) hk e1' hj'
 · simp only[Nat.sub_self] at hj
   exact done f' H' hk hj
end
end
theorem wA {k:IntKind} (hs:k.signed=false) (x:Int):k.wrap x=x%2^k.bits:=by
 simp[IntKind.wrap,hs]
theorem wrapU_nat {k:IntKind} (hs:k.signed=false) (x:Nat):k.wrap (x:Int)=((x%2^k.bits:Nat):Int):=by
 rw[wA hs];simp
theorem ofInt_nat (n x:Nat):BitVec.ofInt n (x:Int)=BitVec.ofNat n x:=by
 apply BitVec.eq_of_toNat_eq;simp[BitVec.toNat_ofInt]
theorem bits_or {k:IntKind} (hs:k.signed=false) {a b:Nat} (ha:a<2^k.bits) (hb:b<2^k.bits):bitsI .or k (a:Int) (b:Int)=some (.int k ((a|||b:Nat):Int)):=by
 have h:(BitVec.ofNat k.bits a|||BitVec.ofNat k.bits b).toNat=a|||b:=by
  rw[BitVec.toNat_or,BitVec.toNat_ofNat,BitVec.toNat_ofNat,Nat.mod_eq_of_lt ha,Nat.mod_eq_of_lt hb]
 simp only[bitsI,ofInt_nat,h,wrapU_nat hs];rw[Nat.mod_eq_of_lt (Nat.or_lt_two_pow ha hb)]
end Go.Av
namespace Go.Geo
section
variable {p:Nat→V} {N:Nat} {n:V} {d:Int}
instance:DecidableEq V:=fun a b=>match a,b with
 |⟨x,y,z⟩,⟨x',y',z'⟩=>if h:x=x'∧y=y'∧z=z' then .isTrue (by obtain⟨rfl,rfl,rfl⟩:=h;rfl) else .isFalse (fun e=>h (by cases e;exact⟨rfl,rfl,rfl⟩))
def plane3 (p:Nat→V) (i j k:Nat):V×Int:=(prim (cross (vec p i j) (vec p i k)),dot (prim (cross (vec p i j) (vec p i k))) (p i))
def cands (p:Nat→V) (i j k:Nat):List (V×Int):=
 if(plane3 p i j k).1=V0 then [] else [plane3 p i j k,(neg (plane3 p i j k).1,-(plane3 p i j k).2)]
theorem yE:prim V0=V0:=by simp[prim,V0]
theorem jV {i j k:Nat} (hi:i<N) (hj:j<N) (hk:k<N) {q:V×Int} (h:q∈cands p i j k) (le:∀k,k<N→dot q.1 (p k)≤q.2) (lt:∃k,k<N∧dot q.1 (p k)<q.2):IsF p N q.1 q.2:=by
 unfold cands at h;split at h
 · cases h
 · rename_i hz
   have hc:cross (vec p i j) (vec p i k)≠V0:=fun e=>hz (by rw[plane3,e,yE]);simp only[List.mem_cons,List.not_mem_nil,or_false] at h
   rcases h with rfl|rfl
   · exact Cand.isF (a:=i) (b:=j) (c:=k) ⟨hc,.inl rfl⟩ hi hj hk le lt rfl
   · refine Cand.isF (a:=i) (b:=j) (c:=k) ⟨hc,.inr rfl⟩ hi hj hk le lt ?_
     simp only[plane3];rw[fD]
theorem cL (F:IsF p N n d):∃i j k,k<j∧j<i∧i<N∧(n,d)∈cands p i j k:=by
 obtain⟨i,j,k,h1,h2,h3,hc,hd⟩:=F.down;refine⟨i,j,k,h1,h2,h3,?_⟩;have hz:¬(plane3 p i j k).1=V0:=prim_ne hc.1;unfold cands;rw[if_neg hz]
 rcases hc.2 with e|e
 · rw[hd,e];exact List.mem_cons_self
 · refine List.mem_cons_of_mem _ (List.mem_cons.2 (.inl ?_))
   rw[hd,e];simp only[plane3];rw[fD]
def Before (i j k a b c:Nat):Prop:=a<i∨(a=i∧(b<j∨(b=j∧c<k)))
def Tried (p:Nat→V) (N:Nat) (i j k:Nat) (K:List (V×Int)):Prop:=
 ∀a b c,c<b→b<a→a<N→Before i j k a b c→∀q∈cands p a b c,IsF p N q.1 q.2→q∈K
theorem Tried.zero:Tried p N 0 0 0 []:=fun a b c _ _ _ h=>by unfold Before at h;omega
theorem Tried.down {i j:Nat} {K:List (V×Int)} (h:Tried p N i j j K):Tried p N i (j+1) 0 K:=fun a b c h1 h2 h3 hb q hq F=>h a b c h1 h2 h3 (by unfold Before at *;omega) q hq F
theorem Tried.next {i:Nat} {K:List (V×Int)} (h:Tried p N i i 0 K):Tried p N (i+1) 0 0 K:=fun a b c h1 h2 h3 hb q hq F=>h a b c h1 h2 h3 (by unfold Before at *;omega) q hq F
theorem Tried.step {i j k:Nat} {K K':List (V×Int)} (h:Tried p N i j k K) (hs:∀q∈K,q∈K') (hn:∀q∈cands p i j k,IsF p N q.1 q.2→q∈K'):Tried p N i j (k+1) K':=fun a b c h1 h2 h3 hb q hq F=>by
 by_cases e:a=i∧b=j∧c=k
 · obtain⟨rfl,rfl,rfl⟩:=e
   exact hn q hq F
 · exact hs q (h a b c h1 h2 h3 (by unfold Before at *;omega) q hq F)
theorem Tried.all {K:List (V×Int)} (h:Tried p N N 0 0 K) (hK:∀q∈K,IsF p N q.1 q.2) (q:V×Int):q∈K↔IsF p N q.1 q.2:=by
 refine⟨hK q,fun F=>?_⟩;obtain⟨i,j,k,h1,h2,h3,hc⟩:=cL F;exact h i j k h1 h2 h3 (.inl h3) q hc F
theorem vB (P:V×Int→Prop):∀L:List (V×Int),∃K:List (V×Int),K.Nodup∧∀q,q∈K↔q∈L∧P q
 |[]=>⟨[],List.nodup_nil,fun q=>by simp⟩
 |x::L=>by
  obtain⟨K,h1,h2⟩:=vB P L;by_cases hx:P x∧x∉K
  · refine⟨x::K,List.nodup_cons.2 ⟨hx.2,h1⟩,fun q=>?_⟩
    simp only[List.mem_cons,h2];constructor
    · rintro(rfl|⟨h3,h4⟩)
      · exact⟨.inl rfl,hx.1⟩
      · exact⟨.inr h3,h4⟩
    · rintro⟨rfl|h3,h4⟩
      · exact .inl rfl
      · exact .inr ⟨h3,h4⟩
  · refine⟨K,h1,fun q=>?_⟩
    rw[h2];simp only[List.mem_cons];constructor
    · rintro⟨h3,h4⟩;exact⟨.inr h3,h4⟩
    · rintro⟨rfl|h3,h4⟩
      · exact(h2 q).1 (Classical.byContradiction fun hc=>hx ⟨h4,hc⟩)
      · exact⟨h3,h4⟩
theorem iV {α:Type} (R:α→α→Prop) (tr:∀{a b c},R a b→R b c→R a c) (tot:∀a b,R a b∨R b a):∀l:List α,∃s:List α,s.Perm l∧s.Pairwise R
 |[]=>⟨[],List.Perm.refl _,List.Pairwise.nil⟩
 |x::l=>by
  obtain⟨s,h1,h2⟩:=iV R tr tot l
  have ins:∀s:List α,s.Pairwise R→∃t:List α,t.Perm (x::s)∧t.Pairwise R:=by
   intro s
   induction s with
   |nil=>exact fun _=>⟨[x],List.Perm.refl _,by simp⟩
   |cons y s ih=>
    intro hs;rw[List.pairwise_cons] at hs
    rcases tot x y with h|h
    · refine⟨x::y::s,List.Perm.refl _,List.pairwise_cons.2 ⟨fun z hz=>?_,List.pairwise_cons.2 hs⟩⟩
      rcases List.mem_cons.1 hz with rfl|hz
      · exact h
      · exact tr h (hs.1 z hz)
    · obtain⟨t,t1,t2⟩:=ih hs.2
      refine⟨y::t,(List.Perm.cons y t1).trans (List.Perm.swap x y s),List.pairwise_cons.2 ⟨fun z hz=>?_,t2⟩⟩
      rcases List.mem_cons.1 (t1.mem_iff.1 hz) with rfl|hz
      · exact h
      · exact hs.1 z hz
  obtain⟨t,t1,t2⟩:=ins s h2;exact⟨t,t1.trans (List.Perm.cons x h1),t2⟩
theorem FList.exists (p:Nat→V) (N:Nat):∃S,FList p N S:=by
 obtain⟨K,h1,h2⟩:=vB (fun q=>IsF p N q.1 q.2) ((List.range N).flatMap fun i=>(List.range N).flatMap fun j=>(List.range N).flatMap fun k=>cands p i j k)
 have hK:∀q,q∈K↔IsF p N q.1 q.2:=fun q=>by
  rw[h2];refine⟨fun h=>h.2,fun F=>⟨?_,F⟩⟩;obtain⟨i,j,k,a1,a2,a3,hc⟩:=cL F;simp only[List.mem_flatMap,List.mem_range];exact⟨i,a3,j,by omega,k,by omega,hc⟩
 obtain⟨S,s1,s2⟩:=iV (fun a b:V×Int=>¬VLt b.1 a.1) (fun {a b c} h h'=>by unfold VLt at *;omega) (fun a b=>by unfold VLt;omega) K;exact⟨S,FList.of_perm h1 hK s1 s2⟩
theorem gZ {α:Type}:∀(l on:List α),l.Nodup→(∀x∈l,x∈on)→l.length≤on.length
 |[],_,_,_=>Nat.zero_le _
 |x::l,on,hn,h=>by
  obtain⟨s,t,rfl⟩:=List.append_of_mem (h x List.mem_cons_self);rw[List.nodup_cons] at hn
  have :=gZ l (s++t) hn.2 fun y hy=>by
   have h1:=h y (List.mem_cons_of_mem _ hy);simp only[List.mem_append,List.mem_cons] at h1 ⊢
   rcases h1 with h1|rfl|h1
   · exact .inl h1
   · exact absurd hy hn.1
   · exact .inr h1
  simp only[List.length_append,List.length_cons] at this ⊢;omega
theorem dY {α β:Type} (f:α→List β) (m:Nat) (hf:∀x,(f x).length≤m):∀l:List α,(l.flatMap f).length≤l.length*m
 |[]=>by simp
 |x::l=>by
  have h1:=dY f m hf l;have h2:=hf x;simp only[List.flatMap_cons,List.length_append,List.length_cons,Nat.add_mul,Nat.one_mul];omega
theorem mK {K:List (V×Int)} (hn:K.Nodup) (hK:∀q∈K,IsF p N q.1 q.2):K.length≤N*(N*(N*2)):=by
 have h1:=gZ K ((List.range N).flatMap fun i=>(List.range N).flatMap fun j=>(List.range N).flatMap fun k=>cands p i j k) hn fun q hq=>by
  obtain⟨i,j,k,a1,a2,a3,hc⟩:=cL (hK q hq);simp only[List.mem_flatMap,List.mem_range];exact⟨i,a3,j,by omega,k,by omega,hc⟩
 have c:∀i j k,(cands p i j k).length≤2:=fun i j k=>by unfold cands;split<;>simp
 have h2:=dY (fun i=>(List.range N).flatMap fun j=>(List.range N).flatMap fun k=>cands p i j k) (N*(N*2)) (fun i=>by
  have :=dY (fun j=>(List.range N).flatMap fun k=>cands p i j k) (N*2) (fun j=>by
   have :=dY (fun k=>cands p i j k) 2 (fun k=>c i j k) (List.range N)
   rwa [List.length_range] at this) (List.range N)
  rwa [List.length_range] at this) (List.range N)
 rw[List.length_range] at h2;omega
theorem aFy {js:List Nat} {n:Nat} (hn:js.Nodup) (hl:∀j∈js,j<n) (hall:∀j,j<n→j∈js):js.Perm (List.range n):=
 (List.perm_ext_iff_of_nodup hn List.nodup_range).2 fun a=>by rw[List.mem_range];exact⟨hl a,hall a⟩
theorem uO {α:Type} (l:List α) (d:α):(List.range l.length).map (fun j=>l.getD j d)=l:=by
 refine List.ext_getElem (by simp) fun k h1 h2=>?_;simp[List.getD,h2]
end
end Go.Geo
namespace Go.Num
def valD:List Nat→Nat
 |[]=>0
 |d::l=>d+65536*valD l
def DD (l:List Nat):Prop:=∀d∈l,d<65536
def trimL:List Nat→List Nat
 |[]=>[]
 |d::l=>if trimL l=[] then(if d=0 then [] else [d]) else d::trimL l
def dg (n:Nat):List Nat:=if n=0 then [] else n%65536::dg (n / 65536)
termination_by n
decreasing_by omega
theorem iJ:dg 0=[]:=by unfold dg;rfl
theorem rB {n:Nat} (h:n≠0):dg n=n%65536::dg (n / 65536):=by rw[dg,if_neg h]
theorem zH {n:Nat}:dg n=[]↔n=0:=by
 constructor
 · intro h
   refine Classical.byContradiction fun hn=>?_;rw[rB hn] at h;cases h
 · rintro rfl;exact iJ
theorem kS (n:Nat):valD (dg n)=n:=by
 induction n using dg.induct with
 |case1=>rw[iJ];rfl
 |case2 n h ih=>rw[rB h,valD,ih];omega
theorem oR (n:Nat):DD (dg n):=by
 induction n using dg.induct with
 |case1=>rw[iJ];intro d hd;cases hd
 |case2 n h ih=>
  rw[rB h];intro d hd
  rcases List.mem_cons.1 hd with rfl|hd
  · omega
  · exact ih d hd
theorem DD.tail {d:Nat} {l:List Nat} (h:DD (d::l)):DD l:=fun x hx=>h x (List.mem_cons_of_mem _ hx)
theorem qO:∀{l:List Nat},DD l→trimL l=dg (valD l)
 |[],_=>by simp[trimL,valD,iJ]
 |d::l,h=>by
  have ih:=qO h.tail;have hd:=h d List.mem_cons_self;simp only[trimL,ih,zH,valD];by_cases hv:valD l=0
  · rw[if_pos hv,hv]
    by_cases hd0:d=0
    · subst hd0;simp[iJ]
    · rw[if_neg hd0,rB (by omega),show(d+65536*0)%65536=d by omega,show(d+65536*0) / 65536=0 by omega,iJ]
  · rw[if_neg hv,rB (n:=d+65536*valD l) (by omega),show(d+65536*valD l)%65536=d by omega,show(d+65536*valD l) / 65536=valD l by omega]
theorem kR:∀{l:List Nat} {n:Nat},n≤l.length→(∀k,n≤k→k<l.length→l.getD k 0=0)→(n=0∨l.getD (n -1) 0≠0)→l.take n=trimL l
 |[],n,_,_,_=>by simp[trimL]
 |d::l,0,h,h1,_=>by
  have ih:=kR (l:=l) (n:=0) (Nat.zero_le _) (fun k _ hk=>by simpa using h1 (k+1) (Nat.zero_le _) (by simpa using hk)) (.inl rfl)
  have hd:d=0:=by simpa using h1 0 (Nat.zero_le _) (by simp)
  rw[List.take_zero] at ih;simp[trimL,←ih,hd]
 |d::l,n+1,h,h1,h2=>by
  have hn:n≤l.length:=by simpa using h
  have h1':∀k,n≤k→k<l.length→l.getD k 0=0:=fun k hk hl=>by simpa using h1 (k+1) (by omega) (by simpa using hl)
  cases n with
  |zero=>
   have ih:=kR (l:=l) (n:=0) hn h1' (.inl rfl)
   have hd:d≠0:=by simpa using h2
   rw[List.take_zero] at ih;simp[trimL,←ih,hd]
  |succ n=>
   have h2':l.getD n 0≠0:=by simpa using h2
   have ih:=kR (l:=l) (n:=n+1) hn h1' (.inr (by simpa using h2'))
   have hne:l≠[]:=by rintro rfl;simp at hn
   have :¬trimL l=[]:=by
    rw[←ih];intro e
    have hl:0<(l.take (n+1)).length:=by rw[List.length_take];omega
    rw[e] at hl;exact absurd hl (Nat.lt_irrefl 0)
   rw[trimL,if_neg this,List.take_succ_cons,ih]
theorem xB {k:Nat}:∀{n:Nat},n<65536^k→(dg n).length≤k:=by
 induction k with
 |zero=>intro n h;have :n=0:=by simpa using h
        subst this;simp[iJ]
 |succ k ih=>
  intro n h;by_cases hn:n=0
  · subst hn;simp[iJ]
  · rw[rB hn]
    have :n / 65536<65536^k:=by
     rw[Nat.div_lt_iff_lt_mul (by decide),←Nat.pow_succ];exact h
    have :=ih this;simp only[List.length_cons];omega
theorem mV:∀{l:List Nat},DD l→valD l<65536^l.length
 |[],_=>by simp[valD]
 |d::l,h=>by
  have ih:=mV h.tail;have hd:=h d List.mem_cons_self;rw[valD,List.length_cons,Nat.pow_succ];omega
theorem iS:∀(a b:List Nat),valD (a++b)=valD a+65536^a.length*valD b
 |[],b=>by simp[valD]
 |d::a,b=>by
  have ih:=iS a b;rw[List.cons_append,valD,ih,valD,List.length_cons,Nat.pow_succ,Nat.mul_add,Nat.mul_comm (65536^a.length) 65536,←Nat.mul_assoc,Nat.add_assoc]
theorem rN {l:List Nat} {k:Nat} (h:k<l.length):valD (l.take (k+1))=valD (l.take k)+65536^k*l.getD k 0:=by
 rw[List.take_add_one,iS]
 have :(l.take k).length=k:=by simp;omega
 rw[this];simp[h,valD]
theorem DD.take {l:List Nat} (h:DD l) (k:Nat):DD (l.take k):=fun d hd=>h d (List.mem_of_mem_take hd)
theorem DD.getD {l:List Nat} (h:DD l) (k:Nat):l.getD k 0<65536:=by
 by_cases hk:k<l.length
 · rw[List.getD_eq_getElem?_getD,List.getElem?_eq_getElem hk];exact h _ (List.getElem_mem hk)
 · rw[List.getD_eq_getElem?_getD,List.getElem?_eq_none (by omega)];decide
theorem gK {l:List Nat} (h:DD l) {k:Nat} (hk:k≤l.length):valD (l.take k)<65536^k:=by
 have :=mV (h.take k)
 rwa [List.length_take,Nat.min_eq_left hk] at this
theorem W_sq:W=65536*65536:=rfl
theorem pow_even (m:Nat):65536^(2*m)=W^m:=by rw[W_sq,Nat.pow_mul]
theorem pow_odd (m:Nat):65536^(2*m+1)=65536*W^m:=by rw[Nat.pow_succ,pow_even,Nat.mul_comm]
def halves (l:List Nat):List Nat:=l.flatMap fun w=>[w%65536,w / 65536]
theorem sK:∀l:List Nat,valD (halves l)=ofL l
 |[]=>rfl
 |w::l=>by
  have ih:=sK l;have e:halves (w::l)=w%65536::w / 65536::halves l:=rfl;rw[e,valD,valD,ih,ofL,W];omega
theorem wV:∀{l:List Nat},(∀w∈l,w<W)→DD (halves l)
 |[],_=>fun d hd=>by cases hd
 |w::l,h=>by
  have e:halves (w::l)=w%65536::w / 65536::halves l:=rfl;have hw:=h w List.mem_cons_self
  have hw':w / 65536<65536:=by
   have :W=65536*65536:=rfl;omega
  rw[e];intro d hd
  rcases List.mem_cons.1 hd with rfl|hd
  · omega
  · rcases List.mem_cons.1 hd with rfl|hd
    · exact hw'
    · exact wV (fun w hw=>h w (List.mem_cons_of_mem _ hw)) d hd
theorem xW {v X m:Nat} (hm:m<16) (hv:v<W^16) (hx:limb v m+X<W):(limbs 16 v).set m (limb v m+X)=limbs 16 (v+X*W^m):=by
 have hl:LW 16 (limbs 16 v):=⟨bD _ _,pW⟩;have h1:=(hl.set m hx).eq;have h2:=sX (limbs 16 v) m (limb v m+X) (by rw[bD];exact hm);rw[dK hm,cT hv,Nat.add_mul] at h2;rw[h1];congr 1;omega
theorem aFj {v m c:Nat} (h:v<c*W^m):limb v m<c∧v / W^m<c:=by
 have :v / W^m<c:=(Nat.div_lt_iff_lt_mul (dT m)).2 h;exact⟨Nat.lt_of_le_of_lt (Nat.mod_le _ _) this,this⟩
theorem aDt {a b:List Nat} (ha:DD a) (hb:DD b) {k:Nat} (h:valD (a.drop (k+1))=valD (b.drop (k+1))) (hlt:a.getD k 0<b.getD k 0):valD a<valD b:=by
 have split:∀(l:List Nat),DD l→∃r,r<65536^k∧valD l=r+65536^k*(l.getD k 0+65536*valD (l.drop (k+1))):=fun l hl=>by
  by_cases hk:k<l.length
  · refine⟨valD (l.take k),gK hl (by omega),?_⟩
    have e:l=l.take k++(l.getD k 0::l.drop (k+1)):=by
     have :l.getD k 0=l[k]:=by simp[List.getD,hk]
     rw[this,←List.drop_eq_getElem_cons hk,List.take_append_drop]
    have hl':(l.take k).length=k:=by simp;omega
    conv=>lhs;rw[e]
    rw[iS,hl',valD]
  · refine⟨valD l,?_,?_⟩
    · exact Nat.lt_of_lt_of_le (mV hl) (Nat.pow_le_pow_right (by decide) (by omega))
    · rw[List.getD_eq_getElem?_getD,List.getElem?_eq_none (by omega),List.drop_of_length_le (by omega)];simp[valD]
 obtain⟨r,h1,e1⟩:=split a ha;obtain⟨s,h2,e2⟩:=split b hb;rw[e1,e2,h];generalize valD (b.drop (k+1))=t at *
 have :a.getD k 0+65536*t+1≤b.getD k 0+65536*t:=by omega
 have :=Nat.mul_le_mul_left (65536^k) this;rw[Nat.mul_add,Nat.mul_one] at this;omega
theorem aAv {a b:List Nat} {k:Nat} (h:valD (a.drop (k+1))=valD (b.drop (k+1))) (he:a.getD k 0=b.getD k 0):valD (a.drop k)=valD (b.drop k):=by
 have split:∀(l:List Nat),valD (l.drop k)=l.getD k 0+65536*valD (l.drop (k+1)):=fun l=>by
  by_cases hk:k<l.length
  · rw[List.drop_eq_getElem_cons hk,valD];simp[List.getD,hk]
  · rw[List.drop_of_length_le (by omega),List.drop_of_length_le (by omega),List.getD_eq_getElem?_getD,List.getElem?_eq_none (by omega)];simp[valD]
 rw[split,split,h,he]
theorem valD_plus {a b:List Nat} {k c v:Nat} (h:v+65536^k*c=valD (a.take k)+valD (b.take k)):
 v+65536^k*((a.getD k 0+b.getD k 0+c)%65536)+65536^(k+1)*((a.getD k 0+b.getD k 0+c) / 65536)=valD (a.take (k+1))+valD (b.take (k+1)):=by
 have tk:∀l:List Nat,valD (l.take (k+1))=valD (l.take k)+65536^k*l.getD k 0:=fun l=>by
  by_cases hk:k<l.length
  · exact rN hk
  · rw[List.take_of_length_le (by omega),List.take_of_length_le (by omega),List.getD_eq_getElem?_getD,List.getElem?_eq_none (by omega)];simp
 rw[tk,tk,Nat.pow_succ,Nat.mul_assoc];generalize hx:a.getD k 0+b.getD k 0+c=x
 have e:65536^k*(x%65536)+65536^k*(65536*(x / 65536))=65536^k*x:=by rw[←Nat.mul_add,Nat.mod_add_div]
 have e2:65536^k*x=65536^k*a.getD k 0+65536^k*b.getD k 0+65536^k*c:=by rw[←hx,Nat.mul_add,Nat.mul_add]
 omega
end Go.Num
namespace Go.Geo
section
variable {p:Nat→V} {N:Nat}
theorem cross_rev (p:Nat→V) (a b c:Nat):cross (vec p c b) (vec p c a)=neg (cross (vec p a b) (vec p a c)):=by
 simp only[vec,cross,sub,neg];apply V.ext'<;>simp only <;>grind
theorem aBt (u w:V):dot (cross u w) w=0:=by simp only[dot,cross];grind
theorem wJ {u w:V} (h:dot u w=0):dot (prim u) w=0:=by
 by_cases hu:u=V0
 · subst hu
   rw[yE];simp[dot,V0]
 · have h1:=lJ u w
   rw[h] at h1;exact bU (c:=(vgcd u:Int)) (by have :=iH hu;omega) h1
theorem aFz (p:Nat→V) (a b c:Nat):plane3 p c b a=(neg (plane3 p a b c).1,-(plane3 p a b c).2):=by
 unfold plane3;rw[cross_rev p a b c,qG,fD];have h:=wJ (aBt (vec p a b) (vec p a c));rw[eK] at h;rw[show dot (prim (cross (vec p a b) (vec p a c))) (p c)=dot (prim (cross (vec p a b) (vec p a c))) (p a) by omega]
theorem cands_rev {a b c:Nat} {q:V×Int} (h:q∈cands p c b a):q∈cands p a b c:=by
 unfold cands at h ⊢;rw[aFz] at h;split at h
 · cases h
 · rename_i hz
   rw[if_neg (fun e=>hz (by rw[e];rfl))];simp only[List.mem_cons,List.not_mem_nil,or_false,neg_neg,Int.neg_neg] at h ⊢
   rcases h with h|h
   · exact .inr h
   · exact .inl h
def TriedU (p:Nat→V) (N:Nat) (i j k:Nat) (K:List (V×Int)):Prop:=
 ∀a b c,a<b→b<c→c<N→Before i j k a b c→∀q∈cands p a b c,IsF p N q.1 q.2→q∈K
theorem TriedU.zero:TriedU p N 0 0 0 []:=fun a b c _ _ _ h=>by unfold Before at h;omega
theorem TriedU.j0 {i:Nat} {K:List (V×Int)} (h:TriedU p N i 0 0 K):TriedU p N i (i+1) 0 K:=fun a b c h1 h2 h3 hb q hq F=>h a b c h1 h2 h3 (by unfold Before at *;omega) q hq F
theorem TriedU.k0 {i j:Nat} {K:List (V×Int)} (h:TriedU p N i j 0 K):TriedU p N i j (j+1) K:=fun a b c h1 h2 h3 hb q hq F=>h a b c h1 h2 h3 (by unfold Before at *;omega) q hq F
theorem TriedU.kN {i j:Nat} {K:List (V×Int)} (h:TriedU p N i j N K):TriedU p N i (j+1) 0 K:=fun a b c h1 h2 h3 hb q hq F=>h a b c h1 h2 h3 (by unfold Before at *;omega) q hq F
theorem TriedU.jN {i:Nat} {K:List (V×Int)} (h:TriedU p N i N 0 K):TriedU p N (i+1) 0 0 K:=fun a b c h1 h2 h3 hb q hq F=>h a b c h1 h2 h3 (by unfold Before at *;omega) q hq F
theorem TriedU.step {i j k:Nat} {K K':List (V×Int)} (h:TriedU p N i j k K) (hs:∀q∈K,q∈K') (hn:∀q∈cands p i j k,IsF p N q.1 q.2→q∈K'):TriedU p N i j (k+1) K':=fun a b c h1 h2 h3 hb q hq F=>by
 by_cases e:a=i∧b=j∧c=k
 · obtain⟨rfl,rfl,rfl⟩:=e
   exact hn q hq F
 · exact hs q (h a b c h1 h2 h3 (by unfold Before at *;omega) q hq F)
theorem TriedU.all {K:List (V×Int)} (h:TriedU p N N 0 0 K) (hK:∀q∈K,IsF p N q.1 q.2) (q:V×Int):q∈K↔IsF p N q.1 q.2:=by
 refine⟨hK q,fun F=>?_⟩;obtain⟨i,j,k,h1,h2,h3,hc⟩:=cL F;exact h k j i h1 h2 h3 (.inl (by omega)) q (cands_rev hc) F
end
section
variable {p:Nat→V} {N:Nat}
def okF (p:Nat→V) (N:Nat) (q:V×Int):Bool:=((List.range N).all fun k=>decide (dot q.1 (p k)≤q.2))&&(List.range N).any fun k=>decide (dot q.1 (p k)<q.2)
theorem okF_iff {q:V×Int}:okF p N q=true↔(∀k,k<N→dot q.1 (p k)≤q.2)∧∃k,k<N∧dot q.1 (p k)<q.2:=by
 simp only[okF,Bool.and_eq_true,List.all_eq_true,List.any_eq_true,List.mem_range,decide_eq_true_eq]
def ltV (a b:V):Bool:=decide (a.x<b.x)||(decide (a.x=b.x)&&(decide (a.y<b.y)||(decide (a.y=b.y)&&decide (a.z<b.z))))
theorem ltV_iff {a b:V}:ltV a b=true↔VLt a b:=by
 simp only[ltV,VLt,Bool.or_eq_true,Bool.and_eq_true,decide_eq_true_eq]
def srtB:List (V×Int)→Bool
 |[]=>true
 |q::r=>(r.all fun x=>ltV q.1 x.1)&&srtB r
theorem srtB_pw:∀{S:List (V×Int)},srtB S=true→S.Pairwise fun a b=>VLt a.1 b.1
 |[],_=>.nil
 |q::r,h=>by
  simp only[srtB,Bool.and_eq_true,List.all_eq_true] at h;exact List.pairwise_cons.2 ⟨fun x hx=>ltV_iff.1 (h.1 x hx),srtB_pw h.2⟩
def chkF (p:Nat→V) (N:Nat) (S:List (V×Int)):Bool:=
 srtB S&&(S.all fun q=>okF p N q&&(List.range N).any fun i=>(List.range i).any fun j=>(List.range j).any fun k=>(cands p i j k).contains q)&&
 ((List.range N).all fun i=>(List.range i).all fun j=>(List.range j).all fun k=>(cands p i j k).all fun q=> !okF p N q||S.contains q)
theorem jT {S:List (V×Int)} (h:chkF p N S=true):FList p N S:=by
 simp only[chkF,Bool.and_eq_true] at h;obtain⟨⟨h1,h2⟩,h3⟩:=h;refine⟨fun q=>⟨fun hq=>?_,fun hF=>?_⟩,srtB_pw h1⟩
 · have :=List.all_eq_true.1 h2 q hq
   simp only[Bool.and_eq_true,List.any_eq_true,List.mem_range] at this;obtain⟨ho,i,hi,j,hj,k,hk,hc⟩:=this;obtain⟨le,lt⟩:=okF_iff.1 ho;exact jV (i:=i) (j:=j) (k:=k) hi (by omega) (by omega) (by simpa using hc) le lt
 · obtain⟨i,j,k,hk,hj,hi,hc⟩:=cL hF
   simp only[List.all_eq_true,List.mem_range] at h3;have :=h3 i hi j hj k hk q hc;rw[okF_iff.2 ⟨hF.le,hF.lt⟩] at this;simpa using this
def polyX (on:List Nat) (f:Nat→Nat):List Nat:=match on with
 |[]=>[]
 |s::_=>(List.range (match (List.range on.length).find? (fun i=>iter f (i+1) s==s) with|some i=>i+1|none=>0)).map fun i=>iter f i s
theorem poly_eq {n:V} {d:Int} {L:List Nat} (h:Poly p N n d L):L=polyX (onL p N n d) (nxt n p (onL p N n d)):=by
 obtain⟨s,r,m,e,W,rfl⟩:=h.ex
 have hfind:(List.range (onL p N n d).length).find? (fun i=>iter (nxt n p (onL p N n d)) (i+1) s==s)=some (m -1):=by
  have hp:=W.pos;have hle:=W.le;rw[List.find?_eq_some_iff_getElem];refine⟨by rw[show m -1+1=m by omega,beq_iff_eq];exact W.back,m -1,by rw[List.length_range];omega,by rw[List.getElem_range],fun j hj=>?_⟩;rw[List.getElem_range];have :=W.first (j+1) (by omega) (by omega);simpa using this
 unfold polyX;generalize hf:nxt n p (onL p N n d)=f at *;generalize onL p N n d=on at *;subst e;simp only;rw[hfind];have hp:=W.pos;rw[show(match some (m -1) with|some i=>i+1|none=>0)=m from by show m -1+1=m;omega]
end
end Go.Geo
namespace Go.Av
open Go
inductive Wk:AV→AV→Prop
 |refl (a:AV):Wk a a
 |aS (tag sz:Nat) (els els':List (List AV)) (hl:els'.length=els.length) (hs:(∀e∈els,e.length=sz)→∀e∈els',e.length=sz) (hf:els'.flatten.length=els.flatten.length)
   (h:∀j,j<els.flatten.length→Wk (els.flatten.getD j undefA) (els'.flatten.getD j undefA)):Wk (.aS tag sz els) (.aS 0 sz els')
 |agg (cs cs':List AV) (hl:cs'.length=cs.length) (h:∀j,j<cs.length→Wk (cs.getD j undefA) (cs'.getD j undefA)):Wk (.agg cs) (.agg cs')
theorem Wk.one {a b:AV} (h:Wk a b):b.one=a.one:=by cases h<;>rfl
theorem VR.wk {G:Gh} {w:World} {a b:AV} (h:Wk a b):∀{u:Value},VR G w a u→VR G w b u:=by
 induction h with
 |refl a=>exact fun h=>h
 |aS tag sz els els' hl hs hf hj ih=>
  intro u hv
  cases hv with
  |lstE _ _ b o s ht=>
   obtain rfl:els'=[]:=List.eq_nil_of_length_eq_zero hl;exact .lstE _ _ b o s (by omega)
  |aS _ _ _ b o cap us hu hc hv ht=>
   rw[←hl];refine .aS 0 sz els' b o cap us (hs hu) (fun j hj'=>?_) (fun j hj'=>ih j (by omega) (hv j (by omega))) ⟨by rw[hl];exact ht.1,trivial⟩
   have hj2:j<els.flatten.length:=by omega
   exact⟨(hc j hj2).1,(hc j hj2).2.1,by rw[(hj j hj2).one];exact(hc j hj2).2.2⟩
 |agg cs cs' hl hj ih=>
  intro u hv
  cases hv with
  |agg _ vs hvl h1 hv=>
   refine .agg cs' vs (by omega) (fun c hc=>?_) fun j hj'=>ih j (by omega) (hv j (by omega));obtain⟨j,hj',rfl⟩:=List.getElem_of_mem hc
   have hj2:j<cs.length:=by omega
   have :=(hj j hj2).one;simp only[List.getD,List.getElem?_eq_getElem hj',List.getElem?_eq_getElem hj2,Option.getD_some] at this;rw[this];exact h1 _ (List.getElem_mem hj2)
theorem Sound.wk {P:Program} {g:Genv} {f:FuncId} {args args':List AV} {H H':Heap} {out:Out} (h:Sound P g f args' H out H') (hl:args'.length=args.length) (hw:∀j,j<args.length→Wk (args.getD j undefA) (args'.getD j undefA)):Sound P g f args H out H':=
 ⟨h.1,fun G w vs hG hv=>h.2 G w vs hG ⟨by rw[hl];exact hv.1,fun j hj=>VR.wk (hw j (by omega)) (hv.2 j (by omega))⟩⟩
mutual
def fgt:AV→AV
 |.aS _ sz els=>.aS 0 sz (fgtLL els)
 |.agg cs=>.agg (fgtL cs)
 |a=>a
def fgtL:List AV→List AV
 |[]=>[]
 |x::r=>fgt x::fgtL r
def fgtLL:List (List AV)→List (List AV)
 |[]=>[]
 |x::r=>fgtL x::fgtLL r
end
theorem lL:∀l:List AV,(fgtL l).length=l.length
 |[]=>by simp[fgtL]
 |x::r=>by simp[fgtL,lL r]
theorem xH:∀l:List (List AV),(fgtLL l).length=l.length
 |[]=>by simp[fgtLL]
 |x::r=>by simp[fgtLL,xH r]
theorem nV:∀l:List (List AV),(fgtLL l).flatten=fgtL l.flatten
 |[]=>by simp[fgtLL,fgtL]
 |x::r=>by
  have :∀a b:List AV,fgtL (a++b)=fgtL a++fgtL b:=fun a b=>by
   induction a with
   |nil=>simp[fgtL]
   |cons y a ih=>simp[fgtL,ih]
  simp[fgtLL,nV r,this]
theorem xI {sz:Nat}:∀{l:List (List AV)},(∀e∈l,e.length=sz)→∀e∈fgtLL l,e.length=sz
 |[],_,e,he=>by simp[fgtLL] at he
 |x::r,h,e,he=>by
  simp only[fgtLL,List.mem_cons] at he
  rcases he with rfl|he
  · rw[lL];exact h x List.mem_cons_self
  · exact xI (fun y hy=>h y (List.mem_cons_of_mem _ hy)) e he
theorem mM:∀(l:List AV) (j:Nat),j<l.length→(fgtL l).getD j undefA=fgt (l.getD j undefA)
 |[],j,hj=>absurd hj (Nat.not_lt_zero _)
 |x::r,0,_=>by simp[fgtL]
 |x::r,j+1,hj=>by
  have :=mM r j (by simpa using hj);simpa [fgtL] using this
theorem nD {l:List AV} {j:Nat} (hj:j<l.length):l.getD j undefA∈l:=by
 rw[show l.getD j undefA=l[j] by simp[List.getD,hj]];exact List.getElem_mem hj
theorem aGx (a:AV):Wk a (fgt a):=by
 match a with
 |.aS tag sz els=>
  rw[fgt];refine .aS tag sz els _ (xH els) xI (by rw[nV,lL]) fun j hj=>?_;rw[nV,mM _ _ hj];have hm:=nD hj;generalize els.flatten.getD j undefA=x at *;obtain⟨e,he,hx⟩:=List.mem_flatten.1 hm;have h1:=List.sizeOf_lt_of_mem he;have h2:=List.sizeOf_lt_of_mem hx;exact aGx _
 |.agg cs=>
  rw[fgt];refine .agg cs _ (lL cs) fun j hj=>?_;rw[mM _ _ hj];have hm:=nD hj;generalize cs.getD j undefA=x at *;have h2:=List.sizeOf_lt_of_mem hm;exact aGx _
 |.bool _|.int _ _|.str _|.nilp|.ref _ _|.pl _|.nilsl|.sl _ _ _ _ _|.func _ _ _|.nilfn|.iface _ _|.nilif|.tup _|.map _|.nilmap|.yield _=>simp only[fgt];exact .refl _
termination_by SizeOf.sizeOf a
decreasing_by
 · simp only[AV.aS.sizeOf_spec];omega
 · simp only[AV.agg.sizeOf_spec];omega
theorem Sound.fgt {P:Program} {g:Genv} {f:FuncId} {args:List AV} {H H':Heap} {out:Out} (h:Sound P g f (fgtL args) H out H'):Sound P g f args H out H':=
 h.wk (lL _) fun j hj=>by rw[mM _ _ hj];exact aGx _
end Go.Av
