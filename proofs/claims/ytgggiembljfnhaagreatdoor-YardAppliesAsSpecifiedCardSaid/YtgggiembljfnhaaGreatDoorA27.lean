/-
  Part of the proof of statement 11
-/
import Derived.Test.YtgggiembljfnhaaGreatDoorA26
import Derived.Test.YtgggiembljfnhaaGreatDoorA07
import Derived.Test.YtgggiembljfnhaaGreatDoorA25
set_option linter.unusedVariables false
set_option linter.unusedSimpArgs false
set_option maxRecDepth 100000
set_option maxHeartbeats 16000000
namespace Go.Proofs.YtgggiembljfnhaaGreatDoor
open Go Go.Av
attribute [local congr] aT aI aM aH aW aQ aN aF aX
attribute [local irreducible] FC bS eG
theorem KX {l:List Bool} (hl:l.length<2^30) (H:aA):Sg 51 [YZ 1 (iR (fJ l))] H (.ret (.bB (H.next+2) 1 (dI (eR (fJ l))))) (H.alloc .tok):=
 YL (aAp _ _) (BW l) (by simp[fJ];omega) H
theorem Vb {l:List (List Int)} (h3:∀w∈l,w.length=3/\kX w) (hl:l.length<2^30) (H:aA):Sg 51 [Zw l.flatten] H (.ret (.bB (H.next+2) 1 (dI (eR l.flatten)))) (H.alloc .tok):=by
 have SL:∀x∈l.flatten,JJ x:=fun x hx=>by obtain⟨w,hw,hx⟩:=Ih.1 hx;exact(h3 w hw).2 x hx
 have hf:=UY fun w hw=>(h3 w hw).1;unfold Zw;split
 . rename_i h;rw[h];exact(YL (v:=.bB 0 1 []) (l:=[]) (.inr rfl) (fun x hx=>by cases hx) (by decide) H).DE 1
 exact YL (.inr rfl) SL (by omega) H
def PZ (s:Sc):List Nat:=eR (fJ s.st)++GZ s.ps++eR s.vs.flatten++eR s.ws.flatten++eR (fJ s.ta)++eR (fJ s.ac)
theorem qT {l:List Int} (h:∀x∈l,JJ x) (hl:l.length<2^33):(eR l).length<=10+10*l.length:=by have h1:=tL h;have h2:=lZ (BP (BS (n:=l.length) (by omega)));unfold eR;rw[Ba];omega
theorem iu {l:List (List Int)} (h:∀p∈l,p.length=7/\kX p) (hl:l.length<2^30):(GZ l).length<=10+70*l.length:=by have h1:=KG h;have h2:=lZ (BP (BS (n:=l.length) (by omega)));unfold GZ;rw[Ba];omega
theorem ZP {s:Sc} (hs:s.OK) (H:aA):Sg 20 [.agg s.cs] H (.ret (.bB (H.next+2) 1 (dI (PZ s)))) (H.alloc .tok):=by
 refine mD fG (by simp only[bO,AV.free,Sc.free hs];rfl) (sR (by unfold PZ;simp[NU])) (kS _) (cY fit bGm (Ak rfl) ?_ (by rfl)) H;unfold W20;dsimp only;have c1:=Kk hs.st hs.bB;have c2:=KX hs.bB;have c3:=mj hs.ps hs.p7 hs.lps;have c4:=Vh hs.vs (fun w hw=>(hs.v3 w hw).1) hs.lvs;have c5:=Vb hs.v3 hs.lvs;have c6:=Vh hs.ws (fun w hw=>(hs.w3 w hw).1) hs.lws;have c7:=Vb hs.w3 hs.lws;have c8:=Kk hs.ta hs.lta;have c9:=KX hs.lta;have c10:=Kk hs.ac hs.lac;have c11:=KX hs.lac;have e1:(eR (fJ s.st)).length<=10+10*2^30:=by have :=qT (BW s.st) (by have :=hs.bB;simp[fJ];omega);have :=hs.bB;simp[fJ] at *;omega
 have e2:(GZ s.ps).length<=10+70*2^30:=by have :=iu hs.p7 hs.lps;have :=hs.lps;omega
 have e3:(eR s.vs.flatten).length<=10+30*2^30:=by
  have hf:=UY fun w hw=>(hs.v3 w hw).1
  have :=qT (l:=s.vs.flatten) (fun x hx=>by
   obtain⟨w,hw,hx⟩:=Ih.1 hx
   exact(hs.v3 w hw).2 x hx) (by have :=hs.lvs;omega)
  have :=hs.lvs;omega
 have e4:(eR s.ws.flatten).length<=10+30*2^30:=by
  have hf:=UY fun w hw=>(hs.w3 w hw).1
  have :=qT (l:=s.ws.flatten) (fun x hx=>by
   obtain⟨w,hw,hx⟩:=Ih.1 hx
   exact(hs.w3 w hw).2 x hx) (by have :=hs.lws;omega)
  have :=hs.lws;omega
 have e5:(eR (fJ s.ta)).length<=10+10*2^30:=by have :=qT (BW s.ta) (by have :=hs.lta;simp[fJ];omega);have :=hs.lta;simp[fJ] at *;omega
 have e6:(eR (fJ s.ac)).length<=10+10*2^30:=by have :=qT (BW s.ac) (by have :=hs.lac;simp[fJ];omega);have :=hs.lac;simp[fJ] at *;omega
 have hE:PZ s=eR (fJ s.st)++GZ s.ps++eR s.vs.flatten++eR s.ws.flatten++eR (fJ s.ta)++eR (fJ s.ac):=rfl;generalize eR (fJ s.st)=a1 at *;generalize GZ s.ps=a2 at *;generalize eR s.vs.flatten=a3 at *;generalize eR s.ws.flatten=a4 at *;generalize eR (fJ s.ta)=a5 at *;generalize eR (fJ s.ac)=a6 at *;refine bQ ?_;simp only[↓zP,zJ,seval,Sc.cs];refine bR ?_;generalize hX:(aA.mk 0 .nil).alloc _=HA;have g0:HA.get 0=some (.cells [s.sv,s.pv,s.vv,s.wv,s.tv,s.av] false):=by subst hX;simp only[zI,seval]
 have gn:0<HA.next:=by subst hX;simp only[zI,seval]
 clear hX;refine bY fun f dQ=>?_;have f1:f 1=.ref 0 0:=by subst dQ;simp only[zB,seval]
 clear dQ;refine aJ fun K hK=>?_;refine Dz ?_;simp only[↓zP,zJ,seval,zD,f1,g0];refine fH (c1 _) ?_;have cP:¬(0=HA.next):=by omega
 simp only[seval];apply iO (hS:=c2 _)
 . decide
 . exact ZaN
 . exact Zag
 . intro x hx _;simp only[Am,Bg,Dd] at hx;subst hx;rw[aA.aG,if_neg cP]
 simp only[↓zP,zJ,seval,zD,f1,g0,cP];apply iO (hS:=c3 _)
 . decide
 . exact ZaN
 . exact Zag
 . intro x hx _;simp only[Am,Bg,Dd] at hx
   rcases hx with rfl|rfl<;>(refine Eq.symm ?_;rw[aA.aG,if_neg Zag])
 have o1:Own ((HA.alloc .tok).alloc .tok) 1 (.bB (HA.next+2) 1 (dI a1)) (dI a1):=(Own.fresh HA 1 _).alloc .tok;have gA:((HA.alloc .tok).alloc .tok).get 0=some (.cells [s.sv,s.pv,s.vv,s.wv,s.tv,s.av] false):=by rw[aA.aG,if_neg Zag,aA.aG,if_neg cP];exact g0
 have gB:0<((HA.alloc .tok).alloc .tok).next:=by simp only[aA.aS];omega
 obtain⟨w1,H1,ha1,o2,gr⟩:=o1.append (bytes:=1) (ys:=dI a2) (by simp only[fZ];omega);have m0:=gr.cells o1 gB gA;have mn:=Cj gB gr.next;rw[<-iD] at o2;simp only[↓zP,zJ,seval,zD,cL,ha1];refine⟨gr.next,?_⟩;apply hK;clear hK K o1 gA gB gr ha1 cP g0 gn
 have fQ:∀{H:aA} {w:AV} {pre b:List Nat},0<H.next->H.get 0=some (.cells [s.sv,s.pv,s.vv,s.wv,s.tv,s.av] false)->Own H 1 w (dI pre)->pre.length+b.length<=2^40->
  ∃w' H',eB (H.alloc .tok) 1 1 false w (dI b)=some (w',H')/\Own H' 1 w' (dI (pre++b))/\0<H'.next/\H'.get 0=some (.cells [s.sv,s.pv,s.vv,s.wv,s.tv,s.av] false):=by
  intro H w pre b hn hg ho hl;have Np:(H.alloc .tok).get 0=some (.cells [s.sv,s.pv,s.vv,s.wv,s.tv,s.av] false):=by rw[aA.aG,if_neg (by omega)];exact hg
  have SQ:0<(H.alloc .tok).next:=by simp only[aA.aS];omega
  obtain⟨w',H',ha,o,gr⟩:=(ho.alloc .tok).append (bytes:=1) (ys:=dI b) (by simp only[fZ];omega);exact⟨w',H',ha,by rw[iD];exact o,Cj SQ gr.next,gr.cells (ho.alloc .tok) SQ Np⟩
 have l12:(a1++a2).length<=20+80*2^30:=by rw[Ba];omega
 generalize a1++a2=p1 at *;obtain⟨w2,H2,ha2,o3,n2,m2⟩:=fQ (b:=a3) mn m0 o2 (by omega);refine bQ ?_;simp only[↓zP,zJ,seval,f1,m0];refine bZ (c4 _) ?_;refine bZ (c5 _) ?_;simp only[↓zP,zG,seval,cL,ha2];refine bR ?_;have l2:(p1++a3).length<=30+110*2^30:=by rw[Ba];omega
 generalize p1++a3=p2 at *;obtain⟨w3,H3,ha3,o4,n3,m3⟩:=fQ (b:=a4) n2 m2 o3 (by omega);refine bQ ?_;simp only[↓zP,zJ,seval,f1,m2];refine bZ (c6 _) ?_;refine bZ (c7 _) ?_;simp only[↓zP,zG,seval,cL,ha3];refine bR ?_;have l3:(p2++a4).length<=40+140*2^30:=by rw[Ba];omega
 generalize p2++a4=p3 at *;obtain⟨w4,H4,ha4,o5,n4,m4⟩:=fQ (b:=a5) n3 m3 o4 (by omega);refine bQ ?_;simp only[↓zP,zJ,seval,f1,m3];refine bZ (c8 _) ?_;refine bZ (c9 _) ?_;simp only[↓zP,zG,seval,cL,ha4];refine bR ?_;have l4:(p3++a5).length<=50+170*2^30:=by rw[Ba];omega
 generalize p3++a5=p4 at *;obtain⟨w5,H5,ha5,o6,n5,m5⟩:=fQ (b:=a6) n4 m4 o5 (by omega);simp only[↓zP,zJ,seval,f1,m4];refine bZ (c10 _) ?_;refine bZ (c11 _) ?_;simp only[↓zP,zG,seval,cL,ha5];refine Rx ?_;exact⟨w5,rfl,by rw[hE];exact o6⟩
def wB (l:List Nat):List UInt8:=l.map fun n=>UInt8.ofNat n
theorem QM:∀l:List Nat,bytesOf (dI l)=some (wB l)
 |[]=>rfl
 |n::l=>by have h:=QM l;simp only[dI,wB,Cd,bytesOf] at h ⊢;rw[h];rfl
theorem aAt {a b:Nat} {l m:List Nat} (H:aA):Sg 18 [.bB a 1 (dI l),.bB b 1 (dI m)] H (.ret (.bool (wB l==wB m))) H:=by refine gH bGl (Ak rfl) ?_ (by rfl);unfold W18;dsimp only;simp only[↓zP,zJ,seval,cL,QM,show ∀x y:List UInt8,si .eql x y=some (.bool (x==y)) from fun _ _=>rfl];refine Rx ?_;exact⟨rfl,rfl⟩
theorem aAy {s t:Sc} (hs:s.OK) (ht:t.OK) (H:aA):Sg 10 [.agg s.cs,.agg t.cs] H (.ret (.bool (wB (PZ s)==wB (PZ t)))) H:=by
 refine So bGg (by simp only[bO,AV.free,Sc.free hs,Sc.free ht];rfl) ?_ H;unfold W10;dsimp only;have h1:=ZP hs;have h2:=ZP ht;have l1:s.cs.length=6:=rfl;have l2:t.cs.length=6:=rfl;refine bQ ?_;refine Ty ?_;refine bR ?_;generalize hX:((aA.mk 0 .nil).alloc _).alloc _=HA;have g0:HA.get 0=some (.cells s.cs false):=by subst hX;simp only[zI,seval]
 have g1:HA.get 1=some (.cells t.cs false):=by subst hX;simp only[zI,seval]
 have gn:1<HA.next:=by subst hX;simp only[zI,seval]
 clear hX;have bFd:¬(0=HA.next):=by omega
 have bFe:¬(1=HA.next):=by omega
 refine bY fun f dQ=>?_;have f2:f 2=.ref 0 0:=by subst dQ;simp only[zB,seval]
 have f3:f 3=.ref 1 0:=by subst dQ;simp only[zB,seval]
 clear dQ;refine bQ ?_;refine Dz ?_;simp only[↓zP,zJ,seval,zD,f2,g0,oL l1];apply iO (hS:=h1 _)
 . decide
 . exact ZaN
 . exact Zag
 . intro x hx _;simp only[Am,Bg,Dd] at hx;subst hx;rw[aA.aG,if_neg bFd]
 simp only[↓zP,zJ,seval,zD,f3,g1,oL l2,bFe];apply iO (hS:=h2 _)
 . decide
 . exact ZaN
 . exact Zag
 . intro x hx _;simp only[Am,Bg,Dd] at hx
   rcases hx with rfl|rfl<;>(refine Eq.symm ?_;rw[aA.aG,if_neg Zag])
 refine fH (aAt (a:=HA.next+2) (b:=(HA.alloc fC.tok).next+2) (l:=PZ s) (m:=PZ t) _) ?_;simp only[↓zP,zJ,seval,zD];refine bR ?_;refine Tx ?_;refine Rx ?_;rfl
def jL (ts:List Th) (rs us:List (List Int)) (k n:Int) (qs:List (List Int)) (s:Sc):Int:=
 if(k==1&&uC s.st n)||(k==2&& !uC s.st n) then 4
 else if k=2/\((ts.map (·.kind)).getD (n -1).toNat 0 != 2)=true then 7
 else if k=2/\¬qs.getD 0 []=s.ps.getD (n -1).toNat [] then 1
 else if k=2/\mO s rs us n=true then 4
 else if(k==3&&(s.ta.getD n.toNat false||(!uC s.st ((rs.getD n.toNat []).getD 0 0)|| !uC s.st ((rs.getD n.toNat []).getD 1 0))))||(k==4&& !s.ta.getD n.toNat false) then 4
 else if(k==5&&(s.ac.getD n.toNat false|| !uC s.st ((us.getD n.toNat []).getD 0 0)))||(k==6&& !s.ac.getD n.toNat false) then 4
 else 0
def BB (ts:List Th) (k n:Int) (qs:List (List Int)) (s:Sc):Sc:=
 if k=1 then {s with st:=s.st.set (n -1).toNat true,ps:=s.ps.set (n -1).toNat (qs.getD (qs.length -1) [])}
 else if k=2 then {s with st:=s.st.set (n -1).toNat false,ps:=s.ps.set (n -1).toNat ((ts.map (·.store)).getD (n -1).toNat [])}
 else if k=3\/k=4 then {s with ta:=s.ta.set n.toNat (k==3)}
 else {s with ac:=s.ac.set n.toNat (k==5)}
theorem cp {l:List Bool} {n:Int} (h:1<=n):uC l n=l.getD (n -1).toNat false:=by unfold uC;rw[Bl.2 (by omega),Kj]
theorem toNat_sub {n:Int}:n.toNat -1=(n -1).toNat:=by omega
theorem Rc {ts:List Th} {rs us:List (List Int)} {k n:Int} {qs:List (List Int)} {s:Sc} (hc:lN ts.length rs.length us.length k n qs=0) (h7:k≠7) (h8:k≠8):jL ts rs us k n qs s=(DA ts rs us k n qs s).1:=by
 unfold jL DA;have two:=fun b:Bool=>Bool.eq_false_or_eq_true b
 rcases vD hc with ⟨hk,n1,n2,_,_⟩|⟨hk,n1,n2⟩|⟨hk,n1,n2⟩|hk|hk
 . obtain⟨m,rfl⟩:∃m:Nat,n=((m+1:Nat):Int):=⟨(n -1).toNat,by omega⟩;have e1:((((m+1:Nat):Int)) -1).toNat=m:=by omega
   have e2:((m+1:Nat):Int).toNat -1=m:=by omega
   rcases hk with rfl|rfl
   . rw[cp n1,e1,e2]
     rcases two (s.st.getD m false) with a|a<;>simp[a,-List.getD_eq_getElem?_getD]
   rw[cp n1,e1,e2];simp only[Pu,ll]
   rcases two (s.st.getD m false) with a1|a1<;>rcases two ((ts.map (·.kind)).getD m 0 != 2) with a2|a2<;>by_cases a3:qs.getD 0 []=s.ps.getD m []<;>rcases two (mO s rs us ((m+1:Nat):Int)) with a4|a4<;>
    simp only[a1,a2,a3,a4,Gm,Iv,Gv,Gb,Bb,Fa,Bool.and_false,Ki,Kj,not_true,not_false_iff,Jy,and_false,if_true,Bq,show((2:Int)==1)=false from rfl,show((2:Int)==2)=true from rfl,show((2:Int)==3)=false from rfl,show((2:Int)==4)=false from rfl,show((2:Int)==5)=false from rfl,show((2:Int)==6)=false from rfl,show ¬(2:Int)=1 from by decide,Jd]
 . rcases hk with rfl|rfl
   . simp only[PB]
     rcases two (s.ta.getD n.toNat false) with a1|a1<;>rcases two (uC s.st ((rs.getD n.toNat []).getD 0 0)) with a2|a2<;>rcases two (uC s.st ((rs.getD n.toNat []).getD 1 0)) with a3|a3<;>simp[a1,a2,a3,-List.getD_eq_getElem?_getD]
   rcases two (s.ta.getD n.toNat false) with a1|a1<;>simp[a1,-List.getD_eq_getElem?_getD]
 . rcases hk with rfl|rfl
   . simp only[Mv]
     rcases two (s.ac.getD n.toNat false) with a1|a1<;>rcases two (uC s.st ((us.getD n.toNat []).getD 0 0)) with a2|a2<;>simp[a1,a2,-List.getD_eq_getElem?_getD]
   rcases two (s.ac.getD n.toNat false) with a1|a1<;>simp[a1,-List.getD_eq_getElem?_getD]
 . exact absurd hk h7
 exact absurd hk h8
theorem bp {ts:List Th} {rs us:List (List Int)} {k n:Int} {qs:List (List Int)} {s:Sc} (hc:lN ts.length rs.length us.length k n qs=0) (h7:k≠7) (h8:k≠8) (hr:lV s=true) (he:(DA ts rs us k n qs s).1=0):JK (BB ts k n qs s) (DA ts rs us k n qs s).2:=by
 revert he;unfold BB DA
 rcases vD hc with ⟨hk,n1,n2,_,_⟩|⟨hk,n1,n2⟩|⟨hk,n1,n2⟩|hk|hk
 . rcases hk with rfl|rfl
   . rw[toNat_sub];simp only[if_true];cases s.st.getD (n -1).toNat false
     . intro _;simp only[Bb,Bq,LY hr];exact⟨rfl,rfl,rfl,rfl,rfl,rfl⟩
     intro h;cases h
   rw[toNat_sub];simp only[show ¬(2:Int)=1 from by decide,Bq,if_true];intro he;rw[if_pos he];exact⟨rfl,rfl,rfl,rfl,rfl,rfl⟩
 . rcases hk with rfl|rfl
   . simp only[show ¬(3:Int)=1 from by decide,show ¬(3:Int)=2 from by decide,Bq,if_true,true_or];cases PB s (rs.getD n.toNat []) n.toNat
     . intro _;exact⟨rfl,rfl,rfl,rfl,rfl,rfl⟩
     intro h;cases h
   simp only[show ¬(4:Int)=1 from by decide,show ¬(4:Int)=2 from by decide,show ¬(4:Int)=3 from by decide,Bq,if_true,or_true];cases s.ta.getD n.toNat false
   . intro h;cases h
   intro _;exact⟨rfl,rfl,rfl,rfl,rfl,rfl⟩
 . rcases hk with rfl|rfl
   . simp only[show ¬(5:Int)=1 from by decide,show ¬(5:Int)=2 from by decide,show ¬(5:Int)=3 from by decide,show ¬(5:Int)=4 from by decide,Bq,if_true,or_self];cases Mv s (us.getD n.toNat []) n.toNat
     . intro _;exact⟨rfl,rfl,rfl,rfl,rfl,rfl⟩
     intro h;cases h
   simp only[show ¬(6:Int)=1 from by decide,show ¬(6:Int)=2 from by decide,show ¬(6:Int)=3 from by decide,show ¬(6:Int)=4 from by decide,show ¬(6:Int)=5 from by decide,Bq,or_self];cases s.ac.getD n.toNat false
   . intro h;cases h
   intro _;exact⟨rfl,rfl,rfl,rfl,rfl,rfl⟩
 . exact absurd hk h7
 exact absurd hk h8
theorem JK.trans {s t u:Sc} (h:JK s t) (g:JK t u):JK s u:=⟨h.st.trans g.st,h.ps.trans g.ps,h.vs.trans g.vs,h.ws.trans g.ws,h.ta.trans g.ta,h.ac.trans g.ac⟩
theorem JK.symm {s t:Sc} (h:JK s t):JK t s:=⟨h.st.symm,h.ps.symm,h.vs.symm,h.ws.symm,h.ta.symm,h.ac.symm⟩
theorem JK.fits {s t:Sc} (h:JK s t) {ts:List Th} {r u:Nat}:lC ts r u s=lC ts r u t:=by unfold lC FL wA;rw[h.st,h.ps,h.vs,h.ws,h.ta,h.ac]
theorem JK.enc {s t:Sc} (h:JK s t):PZ s=PZ t:=by unfold PZ;rw[h.st,h.ps,h.vs,h.ws,h.ta,h.ac]
def IZ (s:Sc) (rs:List (List Int)) (k:Nat):Bool:=s.ta.getD k false&&(!uC s.st ((rs.getD k []).getD 0 0)|| !uC s.st ((rs.getD k []).getD 1 0))
def IV (s:Sc) (us:List (List Int)) (k:Nat):Bool:=s.ac.getD k false&& !uC s.st ((us.getD k []).getD 0 0)
noncomputable def BN (g r0 r1:Int) (ts:List Th) (rs us:List (List Int)) (s:Sc):Bool:=
 NX ts rs.length us.length&&(vE g r0 r1 ts rs us==0&&(lC ts rs.length us.length s&&(!(List.range rs.length).any (IZ s rs)&& !(List.range us.length).any (IV s us))))
theorem Ys {g r0 r1:Int} {ts:List Th} {rs us:List (List Int)} {s:Sc} (h:BN g r0 r1 ts rs us s=true):NX ts rs.length us.length=true/\vE g r0 r1 ts rs us=0/\lC ts rs.length us.length s=true:=by simp only[BN,Al,Ca] at h;exact⟨h.1,h.2.1,h.2.2.1⟩
def W24:CW Tryz.f24:=⟨_,cX⟩
theorem bGo:Fi 24 W24:=cM Tryz.func24 W24
def W85:CW Tryz.f85:=⟨_,cX⟩
theorem bHu:Fi 85 W85:=cM Tryz.func85 W85
def W37:CW Tryz.f37:=⟨_,uJ⟩
theorem bGv:Fi 37 W37:=cM Tryz.func37 W37
def W38:{x // KU Tryz.prog gv true Tryz.f38=some x}:=⟨_,uJ⟩
theorem bGw:kH Tryz.prog gv true 38 W38.1:=jC Tryz.func38 (by kernel_rfl) W38.2
def W9:CW Tryz.f9:=⟨_,uJ⟩
theorem is9:Fi 9 W9:=cM Tryz.func9 W9
def W6:CW Tryz.f6:=⟨_,uJ⟩
theorem is6:Fi 6 W6:=cM Tryz.func6 W6
theorem oB {s:Sc} {n:Int} (hs:s.OK) (h0:0<=n) (hn:n<=s.st.length) (H:aA):Sg 24 [.agg s.cs,.int .i64 n] H (.ret (.bool (uC s.st n))) H:=by
 refine So bGo (by simp only[bO,AV.free,Sc.free hs];rfl) ?_ H;unfold W24;dsimp only;by_cases hz:n=0
 . subst hz;simp only[↓zP,zJ,seval,Sc.cs];refine Rx ?_;rfl
 have hl:=hs.bB;obtain⟨k,hk⟩:∃k:Nat,n -1=k:=⟨(n -1).toNat,by omega⟩;have tQ:k<s.st.length:=by omega
 have DS:s.sv=.bB 0 1 (bE s.st):=hs.st.bB (i:=k) (by rw[bT];exact tQ);have hb:(n==0)=false:=Bl.2 hz;have hw:IntKind.i64.wrap (n -1)=(k:Int):=by rw[wrap_i64 (by omega) (by omega),hk]
 have hv:uC s.st n=s.st[k]:=by unfold uC;rw[hb,hk];simp[tQ]
 have hg:=qK tQ;simp only[↓zP,zJ,seval,Sc.cs,hb,hw,DS,aB,bT,tQ,hg];refine Rx ?_;rw[hv];rfl
theorem fI.aY {v:AV} {sz:Nat} {aY:List (List AV)} (h:fI v sz aY) (H:aA):cL H sz v=some aY:=by rcases h with ⟨rfl,rfl⟩|rfl<;>simp[cL]
def ApP (H:aA) (sz bytes:Nat) (aY:List (List AV)) (v':AV) (H':aA):Prop:=eB H sz bytes true (.bB 1 sz []) aY=some (v',H')/\Ln H' H.next H'.next v' sz aY/\H.next<=H'.next/\∀j,j<H.next->H'.get j=H.get j
theorem QJ {sz bytes:Nat} {aY:List (List AV)} (h:aY.length*bytes<=2^40) (H:aA):∃v' H',ApP H sz bytes aY v' H':=
 ⟨_,_,MG (tag:=0) h,aIf (.inr rfl),UE _ _,fun j hj=>ZF _ _ hj⟩
theorem aAc {s:Sc} (hs:s.OK) (H:aA):
 ∃a b c d e f H',Sg 38 [.agg s.cs] H (.ret (.agg [a,b,c,d,e,f])) H'/\fS H' H.next H'.next a b c d e f s/\H.next<=H'.next/\∀j,j<H.next->H'.get j=H.get j:=by
 obtain⟨H0,uu⟩:∃H0:aA,H0=(H.alloc (.cells s.cs false)).alloc (.cells [.aR,.aR,.aR,.aR,.aR,.aR] false):=⟨_,rfl⟩;have n0:H0.next=H.next+2:=by subst uu;simp only[aA.aS]
 have g0:H0.get H.next=some (.cells s.cs false):=by subst uu;rw[aA.aG,if_neg Zag,aA.aG,if_pos rfl]
 have t0:H0.get (H.next+1)=some (.cells [.aR,.aR,.aR,.aR,.aR,.aR] false):=by subst uu;rw[aA.aG,if_pos (by simp only[aA.aS])]
 have k0:∀j,j<H.next->H0.get j=H.get j:=fun j hj=>by subst uu;rw[aA.aG,if_neg Zag,aA.aG,if_neg (by omega)]
 have bl:∀l:List Bool,l.length<2^30->(bE l).length*1<=2^40:=fun l h=>by rw[bT];omega
 have rl:∀(l:List (List Int)) (b:Nat),b<=64->l.length<2^30->(bD l).length*b<=2^40:=fun l b hb h=>by rw[aO];exact Ce (Bt (Nat.le_of_lt h) hb) (by decide)
 obtain⟨a,H1,c1,r1,n1,k1⟩:=QJ (sz:=1) (bytes:=1) (bl _ hs.bB) H0;obtain⟨b,H2,c2,r2,n2,k2⟩:=QJ (sz:=7) (bytes:=56) (rl _ _ (by decide) hs.lps) H1;obtain⟨c,H3,c3,r3,n3,k3⟩:=QJ (sz:=3) (bytes:=24) (rl _ _ (by decide) hs.lvs) H2;obtain⟨d,H4,c4,r4,n4,k4⟩:=QJ (sz:=3) (bytes:=24) (rl _ _ (by decide) hs.lws) H3;obtain⟨e,H5,c5,r5,n5,k5⟩:=QJ (sz:=1) (bytes:=1) (bl _ hs.lta) H4;obtain⟨f,H6,c6,r6,n6,k6⟩:=QJ (sz:=1) (bytes:=1) (bl _ hs.lac) H5;have q1:H1.get H.next=some (.cells s.cs false):=(k1 _ (by omega)).trans g0;have q2:H2.get H.next=some (.cells s.cs false):=(k2 _ (by omega)).trans q1;have q3:H3.get H.next=some (.cells s.cs false):=(k3 _ (by omega)).trans q2;have q4:H4.get H.next=some (.cells s.cs false):=(k4 _ (by omega)).trans q3;have q5:H5.get H.next=some (.cells s.cs false):=(k5 _ (by omega)).trans q4
 have t6:H6.get (H.next+1)=some (.cells [.aR,.aR,.aR,.aR,.aR,.aR] false):=by rw[k6 _ (by omega),k5 _ (by omega),k4 _ (by omega),k3 _ (by omega),k2 _ (by omega),k1 _ (by omega)];exact t0
 refine⟨a,b,c,d,e,f,H6.set (H.next+1) (.cells [a,b,c,d,e,f] false),gH bGw (Ak rfl) ?_ (by rfl),?_,?_,?_⟩
 . unfold W38;dsimp only;refine bQ ?_;refine Ty ?_;refine bR ?_;rw[<-uu];refine bQ ?_;refine Dz ?_;obtain⟨a1,a2⟩:=r1.one;obtain⟨b1,b2⟩:=r2.one;obtain⟨d1,d2⟩:=r3.one;obtain⟨e1,e2⟩:=r4.one;obtain⟨i1,i2⟩:=r5.one;obtain⟨j1,j2⟩:=r6.one;simp only[↓zP,zJ,seval,zD,g0,q1,q2,q3,q4,q5,Sc.cs,hs.st.aY,hs.ps.aY,hs.vs.aY,hs.ws.aY,hs.ta.aY,hs.ac.aY,c1,c2,c3,c4,c5,c6,n1,n2,n3,n4,n5,n6,a1,a2,b1,b2,d1,d2,e1,e2,i1,i2,j1,j2,t6];refine bR ?_;refine Tx ?_;refine Rx ?_;exact⟨rfl,rfl⟩
 . have st:∀j,H0.next<=j->(H6.set (H.next+1) (.cells [a,b,c,d,e,f] false)).get j=H6.get j:=fun j hj=>by rw[aA.aD,if_neg (by omega)]
   exact Zae
 . simp only[aA.bC];omega
 intro j hj;rw[aA.aD,if_neg (by omega),k6 _ (by omega),k5 _ (by omega),k4 _ (by omega),k3 _ (by omega),k2 _ (by omega),k1 _ (by omega),k0 _ hj]
theorem ER (l:List AV):(List.drop 1 l).getD 0 aC=l.getD 1 aC:=by rcases l with _|⟨_,_|⟨_,_⟩⟩<;>rfl
theorem aAx {g r0 r1:Int} {ts:List Th} {rs us:List (List Int)} {tv rv uv:AV} {s:Sc} {n:Int} (mR:fI tv 14 (nG ts)) (lR:fI rv 8 (bD rs)) (mS:fI uv 10 (bD us)) (ht:∀t∈ts,t.OK) (hr:∀r∈rs,r.length=8) (hu:∀p∈us,p.length=10) (hs:s.OK)
 (hta:s.ta.length=rs.length) (hac:s.ac.length=us.length) (FJ:rs.length<2^30) (ph:us.length<2^30) (H:aA):
 Sg 85 [.agg (yC g r0 r1 tv rv uv),.agg s.cs,.int .i64 n] H (.ret (.bool (mO s rs us n))) H:=by
 refine So bHu (by simp only[yC,bO,AV.free,Sc.free hs,mR.free (fX ht),lR.free (bF _),mS.free (bF _)];rfl) ?_ H;unfold W85;dsimp only;have lr:=lR.len;have lu:=mS.len;simp only[dA] at lr lu;rw[aO] at lr lu;refine bQ ?_;simp only[↓zP,zJ,seval,yC,Sc.cs];refine bR ?_;generalize hX:((aA.mk 0 .nil).alloc _).alloc _=HA;have g0:HA.get 0=some (.cells [.int .i64 g,.int .i64 r0,.int .i64 r1,tv,rv,uv] false):=by subst hX;simp only[zI,seval]
 have g1:HA.get 1=some (.cells [s.sv,s.pv,s.vv,s.wv,s.tv,s.av] false):=by subst hX;simp only[zI,seval]
 clear hX;refine bY fun f dQ=>?_;have f2:f 2=.int .i64 n:=by subst dQ;exact rfl
 have f3:f 3=.ref 0 0:=by subst dQ;simp only[zB,seval]
 have f4:f 4=.ref 1 0:=by subst dQ;simp only[zB,seval]
 clear dQ;refine bQ ?_;refine Tz ?_;refine bP [] (fun i vs H'=>H'=HA/\∀k,k<i->xA s.ta rs n k=false) 0 rs.length (Az _) (by omega) (by decide) ?_ ?_ ?_ ?_ ?_
 . exact zq
 . exact⟨rfl,fun k hk=>absurd hk (An _)⟩
 . rintro i SH H1 h0 hi hk x1 ⟨rfl,_⟩;have u3:SH 3=.ref 0 0:=by rw[hk 3 rfl];simp only[zB,seval];exact f3
   simp only[↓zP,zJ,seval,x1,u3,g0,lr];exact Zaf
 . rintro i fi H1 h0 hi hk x1 ⟨rfl,bV⟩;have u2:fi 2=.int .i64 n:=by rw[hk 2 rfl];simp only[zB,seval];exact f2
   have u3:fi 3=.ref 0 0:=(by rw[hk 3 rfl];simp only[zB,seval];exact f3);have u4:fi 4=.ref 1 0:=(by rw[hk 4 rfl];simp only[zB,seval];exact f4);have gD:i<s.ta.length:=(by omega);have yV:rv=.bB 0 8 (bD rs):=lR.bB (i:=i) Zaz;have sJ:s.tv=.bB 0 1 (bE s.ta):=hs.ta.bB (i:=i) (by rw[bT];exact gD);have hg:=cD hi;have vJ:=qK gD;have h8:=hr _ (Ac hi);have CX:xA s.ta rs n i=(s.ta[i]&&(rs[i].getD 0 0==n||rs[i].getD 1 0==n)):=by unfold xA;simp[gD,hi]
   have fQ:xA s.ta rs n i=false->∀k,k<i+1->xA s.ta rs n k=false:=fun h k hk=>by
    exact Zas
   have xV:xA s.ta rs n i=true->mO s rs us n=true:=fun h=>by unfold mO;rw[Bw.2 ⟨i,Au.2 hi,h⟩];rfl
   rw[CX] at fQ xV;generalize s.ta[i]=tb at *;generalize rs[i]=r at *;have pM:(iC r).length=8:=(by rw[cC,h8]);have a0:=dV (l:=r) (i:=0) (by omega);have a1:=(ER (iC r)).trans (dV (l:=r) (i:=1) (by omega));have d1:(List.drop 1 (iC r)).length=7:=(by rw[Ex,pM]);generalize hx:r.getD 0 0=x at *;generalize hz:r.getD 1 0=z at *;generalize eC:(x==n)=b1 at *;generalize fV:(z==n)=b2 at *;refine aL ?_;cases tb
   . simp only[↓zP,zJ,seval,x1,u4,g1,sJ,aB,bT,gD,vJ,gU];exact⟨trivial,fQ rfl⟩
   cases b1;rotate_left
   . simp only[↓zP,zJ,seval,x1,u2,u3,u4,g0,g1,sJ,yV,aB,bT,aO,gD,hi,vJ,hg,pM,a0,eC];refine Rx ?_;rw[xV rfl];rfl
   cases b2
   . simp only[↓zP,zJ,seval,x1,u2,u3,u4,g0,g1,sJ,yV,aB,bT,aO,gD,hi,vJ,hg,pM,d1,a0,a1,eC,fV];exact⟨trivial,fQ rfl⟩
   simp only[↓zP,zJ,seval,x1,u2,u3,u4,g0,g1,sJ,yV,aB,bT,aO,gD,hi,vJ,hg,pM,d1,a0,a1,eC,fV];refine Rx ?_;rw[xV rfl];rfl
 rintro fi H1 hk ⟨rfl,Uh⟩;have v2:fi 2=.int .i64 n:=by rw[hk 2 rfl];simp only[zB,seval];exact f2
 have v3:fi 3=.ref 0 0:=by rw[hk 3 rfl];simp only[zB,seval];exact f3
 have v4:fi 4=.ref 1 0:=by rw[hk 4 rfl];simp only[zB,seval];exact f4
 clear hk;refine Tx ?_;refine fD ?_;refine Tz ?_;refine bP [] (fun i vs H'=>H'=H1/\∀k,k<i->wY s.ac us n k=false) 0 us.length (Az _) (by omega) (by decide) ?_ ?_ ?_ ?_ ?_
 . exact zq
 . exact⟨rfl,fun k hk=>absurd hk (An _)⟩
 . rintro i SH H1 h0 hi hk x1 ⟨rfl,_⟩;have u3:SH 3=.ref 0 0:=by rw[hk 3 rfl];simp only[zB,seval];exact v3
   simp only[↓zP,zJ,seval,x1,u3,g0,lu];exact Zaf
 . rintro i fi H1 h0 hi hk x1 ⟨rfl,bV⟩;have u2:fi 2=.int .i64 n:=by rw[hk 2 rfl];simp only[zB,seval];exact v2
   have u3:fi 3=.ref 0 0:=(by rw[hk 3 rfl];simp only[zB,seval];exact v3);have u4:fi 4=.ref 1 0:=(by rw[hk 4 rfl];simp only[zB,seval];exact v4);have gD:i<s.ac.length:=(by omega);have yV:uv=.bB 0 10 (bD us):=mS.bB (i:=i) Zaz;have sJ:s.av=.bB 0 1 (bE s.ac):=hs.ac.bB (i:=i) (by rw[bT];exact gD);have hg:=cD hi;have vJ:=qK gD;have h8:=hu _ (Ac hi);have CX:wY s.ac us n i=(s.ac[i]&&us[i].getD 0 0==n):=by unfold wY;simp[gD,hi]
   have fQ:wY s.ac us n i=false->∀k,k<i+1->wY s.ac us n k=false:=fun h k hk=>by
    exact Zas
   have xV:wY s.ac us n i=true->mO s rs us n=true:=fun h=>by unfold mO;rw[Bw.2 ⟨i,Au.2 hi,h⟩,Gf]
   rw[CX] at fQ xV;generalize s.ac[i]=tb at *;generalize us[i]=r at *;have pM:(iC r).length=10:=(by rw[cC,h8]);have a0:=dV (l:=r) (i:=0) (by omega);generalize hx:r.getD 0 0=x at *;generalize eC:(x==n)=b1 at *;refine aL ?_;cases tb
   . simp only[↓zP,zJ,seval,x1,u4,g1,sJ,aB,bT,gD,vJ];exact⟨trivial,fQ rfl⟩
   cases b1
   . simp only[↓zP,zJ,seval,x1,u2,u3,u4,g0,g1,sJ,yV,aB,bT,aO,gD,hi,vJ,hg,pM,a0,eC];exact⟨trivial,fQ rfl⟩
   simp only[↓zP,zJ,seval,x1,u2,u3,u4,g0,g1,sJ,yV,aB,bT,aO,gD,hi,vJ,hg,pM,a0,eC];refine Rx ?_;rw[xV rfl];rfl
 rintro fi H1 hk ⟨rfl,bV⟩
 have eW:mO s rs us n=false:=by unfold mO;rw[Da,Ct,Ct];exact⟨fun k hk=>by rw[Uh k (Au.1 hk)];decide,fun k hk=>by rw[bV k (Au.1 hk)];decide⟩
 refine Tx ?_;refine bR ?_;refine Tz ?_;refine Rx ?_;rw[eW];rfl
theorem mq {g r0 r1:Int} {ts:List Th} {rs us:List (List Int)} {tv rv uv pv:AV} {k n:Int} {qs:List (List Int)} {s:Sc} (hs:s.OK) (hy:YS ts rs us s) (mR:fI tv 14 (nG ts)) (lR:fI rv 8 (bD rs)) (mS:fI uv 10 (bD us))
 (uR:fI pv 7 (bD qs)) (hq:∀q∈qs,q.length=7) (hc:lN ts.length rs.length us.length k n qs=0) (h7:k≠7) (h8:k≠8) (H:aA):
 Sg 37 [.agg (yC g r0 r1 tv rv uv),.agg s.cs,.agg (oC k n pv)] H (.ret (.int .i64 (jL ts rs us k n qs s))) H:=by
 refine So bGv (by simp only[yC,oC,bO,AV.free,Sc.free hs,mR.free (fX hy.ht),lR.free (bF _),mS.free (bF _),uR.free (bF _)];rfl) ?_ H;unfold W37;dsimp only;have ls:s.cs.length=6:=rfl;have l6:(yC g r0 r1 tv rv uv).length=6:=rfl;have e1:=hy.st;have e2:=hy.ps;have e5:=hy.ta;have e6:=hy.ac;have b1:=hy.sJ;have b2:=hy.FJ;have b3:=hy.ph;refine bQ ?_;refine Ty ?_;refine bR ?_;generalize hX:(((aA.mk 0 .nil).alloc _).alloc _).alloc _=HA;have g0:HA.get 0=some (.cells (yC g r0 r1 tv rv uv) false):=by subst hX;simp only[zI,seval]
 have g1:HA.get 1=some (.cells s.cs false):=by subst hX;simp only[zI,seval]
 have g2:HA.get 2=some (.cells (oC k n pv) false):=by subst hX;simp only[zI,seval]
 clear hX;refine bY fun f dQ=>?_;have f3:f 3=.ref 0 0:=by subst dQ;simp only[zB,seval]
 have f4:f 4=.ref 1 0:=by subst dQ;simp only[zB,seval]
 have f5:f 5=.ref 2 0:=by subst dQ;simp only[zB,seval]
 clear dQ;have o0:(oC k n pv).getD 0 aC=.int .i64 k:=rfl;have o1:(oC k n pv).getD 1 aC=.int .i64 n:=rfl;have o2:(oC k n pv).getD 2 aC=pv:=rfl;have lo:(oC k n pv).length=3:=rfl;have y3:(yC g r0 r1 tv rv uv).getD 3 aC=tv:=rfl;have y4:(yC g r0 r1 tv rv uv).getD 4 aC=rv:=rfl;have y5:(yC g r0 r1 tv rv uv).getD 5 aC=uv:=rfl;have s0:s.cs.getD 0 aC=s.sv:=rfl;have s1:s.cs.getD 1 aC=s.pv:=rfl;have s4:s.cs.getD 4 aC=s.tv:=rfl;have s5:s.cs.getD 5 aC=s.av:=rfl;refine bQ ?_;simp only[↓zP,zJ,seval,f5,g2,lo,o1];refine bR ?_;refine bY fun f' dQ=>?_;have w3:=Ks dQ f3;have w4:=Ks dQ f4;have w5:=Ks dQ f5;have w7:f' 7=.int .i64 n:=by subst dQ;simp only[zB,seval]
 clear dQ f3 f4 f5 f;have z0:asNat (.int .i64 0)=some 0:=rfl;have fin:∀{x:Int},jL ts rs us k n qs s=x->Out.ret (.int .i64 x)=Out.ret (.int .i64 (jL ts rs us k n qs s)):=fun h=>by rw[h]
 rcases vD hc with ⟨hk,n1,n2,q1,q2⟩|⟨hk,n1,n2⟩|⟨hk,n1,n2⟩|hk|hk
 . have S1:=oB hs (n:=n) (by omega) (by omega);obtain⟨m,hm⟩:∃m:Nat,n -1=m:=⟨(n -1).toNat,by omega⟩;have Zs:IntKind.i64.wrap (n -1)=(m:Int):=by rw[wrap_i64 (by omega) (by omega),hm]
   have hmt:(n -1).toNat=m:=by omega
   rcases hk with rfl|rfl
   . refine aJ fun K hK=>?_;cases hb:uC s.st n
     . rw[hb] at S1;simp only[↓zP,zJ,seval,w4,w5,w7,g1,g2,lo,o0,oL ls];refine bZ (S1 _) ?_;simp only[↓zP,zJ,seval,w5,g2,lo,o0];apply hK;clear hK K;refine bQ ?_;simp only[↓zP,zJ,seval,w5,g2,lo,o0];refine fD ?_;refine bQ ?_;refine Dz ?_;simp only[↓zP,zJ,seval,zD,w5,g2,lo,o0,gU];refine bR ?_;refine Tz ?_;refine fD ?_;refine bQ ?_;refine Dz ?_;simp only[↓zP,zJ,seval,zD,w5,g2,lo,o0,gU];refine bR ?_;refine Tz ?_;refine bR ?_;refine Tz ?_;refine Rx ?_;exact fin (by simp[jL,hb])
     rw[hb] at S1;simp only[↓zP,zJ,seval,w4,w5,w7,g1,g2,lo,o0,oL ls];refine bZ (S1 _) ?_;simp only[↓zP,zG,seval,gU];refine Rx ?_;exact fin (by simp[jL,hb])
   refine bQ ?_;cases hb:uC s.st n
   . rw[hb] at S1;simp only[↓zP,zJ,seval,w4,w5,w7,g1,g2,lo,o0,oL ls];refine bZ (S1 _) ?_;refine Ty ?_;refine Rx ?_;exact fin (by simp[jL,hb])
   rw[hb] at S1;simp only[↓zP,zJ,seval,w4,w5,w7,g1,g2,lo,o0,oL ls];refine bZ (S1 _) ?_;refine Ty ?_;refine bR ?_;have gD:m<ts.length:=(by omega);have FB:m<s.ps.length:=(by omega);have DP:0<qs.length:=(by omega);have t3:=y3.trans (mR.bB (i:=m) (by rw[dL];exact gD));have t1:=s1.trans (hs.ps.bB (i:=m) (by rw[aO];exact FB));have t2:=o2.trans (uR.bB (i:=0) (by rw[aO];exact DP));have vJ:=oS gD;have jr:=cD FB;have Zj:=cD DP;have Ph:=Th.len (hy.ht _ (Ac gD));have hk0:ts[m].cs.getD 0 aC=.int .i64 ts[m].kind:=rfl;have xe:=(hs.p7 _ (Ac FB)).1;have xi:=hq _ (Ac DP);have hlp:(iC s.ps[m]).length=7:=(by rw[cC,xe]);have hlq:(iC qs[0]).length=7:=(by rw[cC,xi]);have Td:cK [.i,.i,.i,.i,.i,.i,.i] (iC qs[0]) (iC s.ps[m])=some (decide (qs[0]=s.ps[m])):=qL (n:=7) xi xe;have S3:=aAx (g:=g) (r0:=r0) (r1:=r1) (n:=n) mR lR mS hy.ht hy.hr hy.hu hs e5 e6 b2 b3
   have E:jL ts rs us 2 n qs s=if(ts[m].kind != 2)=true then 7 else if ¬qs[0]=s.ps[m] then 1 else if mO s rs us n=true then 4 else 0:=by unfold jL;rw[hb,hmt,show(ts.map (·.kind)).getD m 0=ts[m].kind by simp[gD],show qs.getD 0 []=qs[0] by simp[DP],show s.ps.getD m []=s.ps[m] by simp[FB]];simp
   refine bQ ?_;generalize fV:(ts[m].kind != 2)=b2' at *;cases b2';rotate_left
   . simp only[↓zP,zJ,seval,w3,w5,w7,g0,g2,lo,o0,l6,t3,Zs,aB,dL,gD,vJ,Ph,hk0,fV];refine Rx ?_;exact fin (by rw[E];rfl)
   simp only[↓zP,zJ,seval,w3,w5,w7,g0,g2,lo,o0,l6,t3,Zs,aB,dL,gD,vJ,Ph,hk0,fV];refine Dz ?_;by_cases hqp:qs[0]=s.ps[m];rotate_left
   . rw[Ag hqp] at Td;simp only[↓zP,zJ,seval,zD,w4,w5,w7,g1,g2,lo,ls,t1,t2,z0,Zs,aB,aO,FB,DP,jr,Zj,oL hlp,oL hlq,Td];refine Rx ?_;exact fin (by rw[E,if_neg (by decide),if_pos hqp])
   rw[Aj hqp] at Td;simp only[↓zP,zJ,seval,zD,w4,w5,w7,g1,g2,lo,ls,t1,t2,z0,Zs,aB,aO,FB,DP,jr,Zj,oL hlp,oL hlq,Td];simp only[zJ,seval,w3,g0,g1,oL l6,oL ls];refine bZ (S3 _) ?_;cases hu:mO s rs us n;rotate_left
   . refine Tz ?_;refine Rx ?_;exact fin (by rw[E,if_neg (by decide),if_neg (not_not_intro hqp),hu];rfl)
   refine Tz ?_;refine fD ?_;refine bQ ?_;refine Dz ?_;simp only[↓zP,zJ,seval,zD,w5,g2,lo,o0,gU];refine bR ?_;refine Tz ?_;refine fD ?_;refine bQ ?_;refine Dz ?_;simp only[↓zP,zJ,seval,zD,w5,g2,lo,o0,gU];refine bR ?_;refine Tz ?_;refine bR ?_;refine Tz ?_;refine Rx ?_;exact fin (by rw[E,if_neg (by decide),if_neg (not_not_intro hqp),hu];rfl)
 . obtain⟨m,hm⟩:∃m:Nat,n=m:=⟨n.toNat,by omega⟩;subst hm;have hi:m<rs.length:=by omega
   have gD:m<s.ta.length:=(by omega);have t4:=s4.trans (hs.ta.bB (i:=m) (by rw[bT];exact gD));have vJ:=qK gD
   rcases hk with rfl|rfl
   . have t5:=y4.trans (lR.bB (i:=m) Zaz);have hg:=cD hi;have pM:(iC rs[m]).length=8:=(by rw[cC,hy.hr _ (Ac hi)]);have a0:=dV (l:=rs[m]) (i:=0) (by rw[hy.hr _ (Ac hi)];decide);have a1:=(ER (iC rs[m])).trans (dV (l:=rs[m]) (i:=1) (by rw[hy.hr _ (Ac hi)];decide));have d1:(List.drop 1 (iC rs[m])).length=7:=(by rw[Ex,pM]);obtain⟨hA,hB⟩:=hy.me _ (Ac hi);have S1:=oB hs (n:=rs[m].getD 0 0) hA.1 (by omega);have S2:=oB hs (n:=rs[m].getD 1 0) hB.1 (by omega)
     have E:jL ts rs us 3 m qs s=if(s.ta[m]||(!uC s.st (rs[m].getD 0 0)|| !uC s.st (rs[m].getD 1 0)))=true then 4 else 0:=by unfold jL;rw[Dr,show s.ta.getD m false=s.ta[m] by simp[gD],show rs.getD m []=rs[m] by simp[hi]];simp
     refine bQ ?_;simp only[↓zP,zJ,seval,w5,g2,lo,o0];refine fD ?_;simp only[↓zP,zJ,seval,w5,g2,lo,o0];refine fD ?_;refine aJ fun K2 bW=>?_;refine Dz ?_;generalize rs[m].getD 0 0=x at *;generalize rs[m].getD 1 0=z at *;generalize uC s.st x=b1 at *;generalize uC s.st z=b2 at *;generalize s.ta[m]=tb at *;cases tb;rotate_left
     . exact Zao
     cases b1
     . simp only[↓zP,zJ,seval,zD,w3,w4,w5,w7,g0,g1,g2,lo,o0,ls,oL ls,l6,t4,t5,aB,bT,aO,gD,hi,vJ,hg,pM,a0];refine fH (S1 _) ?_;simp only[↓zP,zJ,seval,zD,gU];apply bW;clear bW K2;refine Tz ?_;refine Rx ?_;exact fin E
     simp only[↓zP,zJ,seval,zD,w3,w4,w5,w7,g0,g1,g2,lo,o0,ls,oL ls,l6,t4,t5,aB,bT,aO,gD,hi,vJ,hg,pM,a0];refine fH (S1 _) ?_;simp only[↓zP,zJ,seval,zD,w3,w4,w7,g0,g1,ls,oL ls,l6,t5,aB,aO,hi,hg,d1,a1];refine fH (S2 _) ?_;cases b2
     . simp only[↓zP,zJ,seval,zD,gU];apply bW;clear bW K2;refine Tz ?_;refine Rx ?_;exact fin E
     simp only[↓zP,zJ,seval,zD,w5,g2,lo,o0];apply bW;clear bW K2;refine Tz ?_;refine fD ?_;refine bQ ?_;refine Dz ?_;simp only[↓zP,zJ,seval,zD,w5,g2,lo,o0,gU];refine bR ?_;refine Tz ?_;refine bR ?_;refine Tz ?_;refine Rx ?_;exact fin E
   have E:jL ts rs us 4 m qs s=if s.ta[m]=true then 0 else 4:=by unfold jL;rw[Dr,show s.ta.getD m false=s.ta[m] by simp[gD]];cases s.ta[m]<;>simp
   refine bQ ?_;simp only[↓zP,zJ,seval,w5,g2,lo,o0];refine fD ?_;simp only[↓zP,zJ,seval,w5,g2,lo,o0];refine fD ?_;refine aJ fun K2 bW=>?_;refine Dz ?_;generalize s.ta[m]=tb at *;cases tb
   . exact Zao
   simp only[↓zP,zJ,seval,zD,w4,w5,w7,g1,g2,lo,o0,ls,t4,aB,bT,gD,vJ,gU];apply bW;clear bW K2;refine Tz ?_;refine fD ?_;refine bQ ?_;refine Dz ?_;simp only[↓zP,zJ,seval,zD,w5,g2,lo,o0,gU];refine bR ?_;refine Tz ?_;refine bR ?_;refine Tz ?_;refine Rx ?_;exact fin E
 . obtain⟨m,hm⟩:∃m:Nat,n=m:=⟨n.toNat,by omega⟩;subst hm;have hi:m<us.length:=by omega
   have gD:m<s.ac.length:=(by omega);have t4:=s5.trans (hs.ac.bB (i:=m) (by rw[bT];exact gD));have vJ:=qK gD
   rcases hk with rfl|rfl
   . have t5:=y5.trans (mS.bB (i:=m) Zaz);have hg:=cD hi;have pM:(iC us[m]).length=10:=(by rw[cC,hy.hu _ (Ac hi)]);have a0:=dV (l:=us[m]) (i:=0) (by rw[hy.hu _ (Ac hi)];decide);have hA:=hy.push _ (Ac hi);have S1:=oB hs (n:=us[m].getD 0 0) hA.1 (by omega)
     have E:jL ts rs us 5 m qs s=if(s.ac[m]|| !uC s.st (us[m].getD 0 0))=true then 4 else 0:=by unfold jL;rw[Dr,show s.ac.getD m false=s.ac[m] by simp[gD],show us.getD m []=us[m] by simp[hi]];simp
     refine bQ ?_;simp only[↓zP,zJ,seval,w5,g2,lo,o0];refine fD ?_;simp only[↓zP,zJ,seval,w5,g2,lo,o0];refine fD ?_;refine bQ ?_;refine Dz ?_;simp only[↓zP,zJ,seval,zD,w5,g2,lo,o0,gU];refine bR ?_;refine Tz ?_;refine fD ?_;refine aJ fun K2 bW=>?_;refine Dz ?_;generalize us[m].getD 0 0=x at *;generalize uC s.st x=b1 at *;generalize s.ac[m]=tb at *;cases tb;rotate_left
     . exact Zao
     simp only[↓zP,zJ,seval,zD,w3,w4,w5,w7,g0,g1,g2,lo,o0,ls,oL ls,l6,t4,t5,aB,bT,aO,gD,hi,vJ,hg,pM,a0];refine fH (S1 _) ?_;cases b1
     . simp only[↓zP,zJ,seval,zD,gU];apply bW;clear bW K2;refine Tz ?_;refine Rx ?_;exact fin E
     simp only[↓zP,zJ,seval,zD,w5,g2,lo,o0];apply bW;clear bW K2;refine Tz ?_;refine bR ?_;refine Tz ?_;refine Rx ?_;exact fin E
   have E:jL ts rs us 6 m qs s=if s.ac[m]=true then 0 else 4:=by unfold jL;rw[Dr,show s.ac.getD m false=s.ac[m] by simp[gD]];cases s.ac[m]<;>simp
   refine bQ ?_;simp only[↓zP,zJ,seval,w5,g2,lo,o0];refine fD ?_;simp only[↓zP,zJ,seval,w5,g2,lo,o0];refine fD ?_;refine bQ ?_;refine Dz ?_;simp only[↓zP,zJ,seval,zD,w5,g2,lo,o0,gU];refine bR ?_;refine Tz ?_;refine fD ?_;refine aJ fun K2 bW=>?_;refine Dz ?_;generalize s.ac[m]=tb at *;cases tb
   . exact Zao
   simp only[↓zP,zJ,seval,zD,w4,w5,w7,g1,g2,lo,o0,ls,t4,aB,bT,gD,vJ,gU];apply bW;clear bW K2;refine Tz ?_;refine bR ?_;refine Tz ?_;refine Rx ?_;exact fin E
 . exact absurd hk h7
 exact absurd hk h8
theorem kj {ts:List Th} {rs us:List (List Int)} {k n:Int} {qs:List (List Int)} {s t:Sc} (h:JK s t):(DA ts rs us k n qs s).1=(DA ts rs us k n qs t).1/\JK (DA ts rs us k n qs s).2 (DA ts rs us k n qs t).2:=by
 obtain⟨a1,a2,a3,a4,a5,a6,st,ps,vs,ws,ta,ac⟩:=s;obtain⟨b1,b2,b3,b4,b5,b6,st',ps',WV,ws',ta',ac'⟩:=t;obtain⟨h1,h2,h3,h4,h5,h6⟩:=h;dsimp only at h1 h2 h3 h4 h5 h6;subst h1 h2 h3 h4 h5 h6;have rf:∀{c1 c2 c3 c4 c5 c6 e1 e2 e3 e4 e5 e6:AV} {x1 x5 x6:List Bool} {x2 x3 x4:List (List Int)},JK ⟨c1,c2,c3,c4,c5,c6,x1,x2,x3,x4,x5,x6⟩ ⟨e1,e2,e3,e4,e5,e6,x1,x2,x3,x4,x5,x6⟩:=⟨rfl,rfl,rfl,rfl,rfl,rfl⟩;unfold DA;by_cases k1:k=1
 . simp only[k1,if_true];cases st.getD (n.toNat -1) false<;>exact⟨rfl,rf⟩
 simp only[k1,Bq];by_cases k2:k=2
 . simp only[k2,if_true];refine⟨rfl,?_⟩;by_cases hr:Pu ⟨a1,a2,a3,a4,a5,a6,st,ps,vs,ws,ta,ac⟩ ts rs us (qs.getD 0 []) (n.toNat -1)=0
   . rw[if_pos hr,if_pos (show Pu ⟨b1,b2,b3,b4,b5,b6,st,ps,vs,ws,ta,ac⟩ ts rs us (qs.getD 0 []) (n.toNat -1)=0 from hr)];exact rf
   rw[if_neg hr,if_neg (show ¬Pu ⟨b1,b2,b3,b4,b5,b6,st,ps,vs,ws,ta,ac⟩ ts rs us (qs.getD 0 []) (n.toNat -1)=0 from hr)];exact rf
 simp only[k2,Bq];by_cases k3:k=3
 . simp only[k3,if_true];rw[show PB ⟨b1,b2,b3,b4,b5,b6,st,ps,vs,ws,ta,ac⟩ (rs.getD n.toNat []) n.toNat=PB ⟨a1,a2,a3,a4,a5,a6,st,ps,vs,ws,ta,ac⟩ (rs.getD n.toNat []) n.toNat from rfl];cases PB ⟨a1,a2,a3,a4,a5,a6,st,ps,vs,ws,ta,ac⟩ (rs.getD n.toNat []) n.toNat<;>exact⟨rfl,rf⟩
 simp only[k3,Bq];by_cases k4:k=4
 . simp only[k4,if_true];cases ta.getD n.toNat false<;>exact⟨rfl,rf⟩
 simp only[k4,Bq];by_cases k5:k=5
 . simp only[k5,if_true];rw[show Mv ⟨b1,b2,b3,b4,b5,b6,st,ps,vs,ws,ta,ac⟩ (us.getD n.toNat []) n.toNat=Mv ⟨a1,a2,a3,a4,a5,a6,st,ps,vs,ws,ta,ac⟩ (us.getD n.toNat []) n.toNat from rfl];cases Mv ⟨a1,a2,a3,a4,a5,a6,st,ps,vs,ws,ta,ac⟩ (us.getD n.toNat []) n.toNat<;>exact⟨rfl,rf⟩
 simp only[k5,Bq];cases ac.getD n.toNat false<;>exact⟨rfl,rf⟩
theorem JK.rest {s t:Sc} (h:JK s t):lV s=lV t:=by unfold lV;rw[h.vs,h.ws]
theorem Wl {ts:List Th} {rs us:List (List Int)} {k n:Int} {qs:List (List Int)} {s t:Sc} (h:JK s t):(vZ ts rs us k n qs s).1=(vZ ts rs us k n qs t).1/\JK (vZ ts rs us k n qs s).2 (vZ ts rs us k n qs t).2:=by
 have h1:=kj (ts:=ts) (rs:=rs) (us:=us) (k:=k) (n:=n) (qs:=qs) h;unfold vZ;rw[<-h.rest,<-h1.1];by_cases c1:lN ts.length rs.length us.length k n qs≠0
 . rw[if_pos c1,if_pos c1];exact⟨rfl,h⟩
 rw[if_neg c1,if_neg c1];by_cases c2:k=7\/k=8
 . rw[if_pos c2,if_pos c2];exact⟨rfl,h⟩
 rw[if_neg c2,if_neg c2];by_cases c3:lV s=false
 . rw[if_pos c3,if_pos c3];exact⟨rfl,h⟩
 rw[if_neg c3,if_neg c3];by_cases c4:(DA ts rs us k n qs s).1≠0
 . rw[if_pos c4,if_pos c4];exact⟨rfl,h⟩
 rw[if_neg c4,if_neg c4];exact h1
theorem JK.YU (s:Sc):JK s s:=⟨rfl,rfl,rfl,rfl,rfl,rfl⟩
theorem rn {ts:List Th} {rs us:List (List Int)} {k n:Int} {qs:List (List Int)} {s:Sc} (h:(vZ ts rs us k n qs s).1≠0):(vZ ts rs us k n qs s).2=s:=by
 revert h;unfold vZ;split
 . exact fun _=>rfl
 split
 . exact fun _=>rfl
 split
 . exact fun _=>rfl
 split
 . exact fun _=>rfl
 rename_i h;intro h2;exact absurd h2 h
theorem RR (k n:Int) {pv:AV} (hpf:pv.free=true) (H:aA):Sg 84 [.agg (oC k n pv)] H (.ret (.bool (Sw k))) H:=by
 refine So bHt (by simp only[oC,sf,hpf]) ?_ H;unfold W84;dsimp only;have Zm:Sw k=(k==1||k==2):=rfl;rw[Zm];generalize JO:(k==1)=q1 at *;generalize SV:(k==2)=q2 at *;cases q1
 . simp only[↓zP,zJ,seval,oC,JO,SV];refine Rx ?_;rfl
 simp only[↓zP,zJ,seval,oC,JO];refine Rx ?_;rfl
def wW (nT nR nP k n:Int):Bool:=match yW k nT nR nP with
 |some (lo,hi)=>decide (lo<=n/\n<=hi)
 |none=>false
theorem aAm {g r0 r1:Int} {ts:List Th} {rs us:List (List Int)} {tv rv uv pv:AV} {k n:Int} (mR:fI tv 14 (nG ts)) (lR:fI rv 8 (bD rs)) (mS:fI uv 10 (bD us)) (hpf:pv.free=true) (ht:∀t∈ts,t.OK)
 (hk:1<=k/\k<=8) (H:aA):
 Sg 83 [.agg (yC g r0 r1 tv rv uv),.agg (oC k n pv)] H (.ret (.bool (wW ts.length rs.length us.length k n))) H:=by
 refine So bHs (by simp only[yC,oC,sf,mR.free (fX ht),lR.free (bF _),mS.free (bF _),hpf]) ?_ H;unfold W83;dsimp only;have lt:=mR.len;have lr:=lR.len;have lu:=mS.len;simp only[dA] at lt lr lu;rw[dL] at lt;rw[aO] at lr lu;have GF:=RR k n hpf;unfold oC at GF;generalize hnT:(ts.length:Int)=nT at *;generalize hnR:(rs.length:Int)=nR at *;generalize hnU:(us.length:Int)=nU at *;refine bQ ?_;simp only[↓zP,zJ,seval,yC,oC];refine bR ?_;generalize hX:((aA.mk 0 .nil).alloc _).alloc _=HA;have g0:HA.get 0=some (.cells [.int .i64 g,.int .i64 r0,.int .i64 r1,tv,rv,uv] false):=by subst hX;simp only[zI,seval]
 have g1:HA.get 1=some (.cells [.int .i64 k,.int .i64 n,pv] false):=by subst hX;simp only[zI,seval]
 clear hX;refine bY fun f dQ=>?_;have f2:f 2=.ref 0 0:=by subst dQ;simp only[zB,seval]
 have f3:f 3=.ref 1 0:=by subst dQ;simp only[zB,seval]
 clear dQ;have hk8:k=1\/k=2\/k=3\/k=4\/k=5\/k=6\/k=7\/k=8:=by omega
 have l3:∀a b c:AV,3<=[a,b,c].length:=fun _ _ _=>by simp
 rcases hk8 with rfl|rfl|rfl|rfl|rfl|rfl|rfl|rfl
 . have hN:wW nT nR nU 1 n=(decide (n≥1)&&decide (n<=nT)):=by rw[Cg];simp[wW,yW]
   rw[show Sw 1=true from rfl] at GF;exact ZaF
 . have hN:wW nT nR nU 2 n=(decide (n≥1)&&decide (n<=nT)):=by rw[Cg];simp[wW,yW]
   rw[show Sw 2=true from rfl] at GF;exact ZaF
 . have hN:wW nT nR nU 3 n=(decide (n≥0)&&decide (n<nR)):=by rw[Cg];simp[wW,yW];omega
   rw[show Sw 3=false from rfl] at GF;exact ZaA
 . have hN:wW nT nR nU 4 n=(decide (n≥0)&&decide (n<nR)):=by rw[Cg];simp[wW,yW];omega
   rw[show Sw 4=false from rfl] at GF;exact ZaA
 . have hN:wW nT nR nU 5 n=(decide (n≥0)&&decide (n<nU)):=by rw[Cg];simp[wW,yW];omega
   rw[show Sw 5=false from rfl] at GF;exact Zat
 . have hN:wW nT nR nU 6 n=(decide (n≥0)&&decide (n<nU)):=by rw[Cg];simp[wW,yW];omega
   rw[show Sw 6=false from rfl] at GF;exact Zat
 . have hN:wW nT nR nU 7 n=(n==0):=by rw[Cg];simp[wW,yW];omega
   rw[show Sw 7=false from rfl] at GF;refine bQ ?_;simp only[↓zP,zJ,seval,f3,g1];refine bZ (GF _) ?_;refine Tz ?_;refine fD ?_;simp only[↓zP,zJ,seval,f3,g1];refine fD ?_;simp only[↓zP,zJ,seval,f3,g1];refine bR ?_;refine aJ fun K hK=>?_;simp only[↓zP,zJ,seval,f3,g1];refine Rx ?_;rw[hN];rfl
 have hN:wW nT nR nU 8 n=(decide (n≥1)&&decide (n<=10000)):=by rw[Cg];simp[wW,yW]
 rw[show Sw 8=false from rfl] at GF;refine bQ ?_;simp only[↓zP,zJ,seval,f3,g1];refine bZ (GF _) ?_;refine Tz ?_;refine fD ?_;simp only[↓zP,zJ,seval,f3,g1];refine fD ?_;simp only[↓zP,zJ,seval,f3,g1];refine fD ?_;simp only[↓zP,zJ,seval,f3,g1];refine bR ?_;generalize eC:decide (n≥1)=b1 at *;generalize fV:decide (n<=10000)=b2 at *;cases b1<;>
 . simp only[↓zP,zJ,seval,f3,g1,eC,fV];refine Rx ?_;rw[hN];rfl
theorem aAb {g r0 r1:Int} {ts:List Th} {rs us ps:List (List Int)} {tv rv uv pv:AV} {k n:Int} (mR:fI tv 14 (nG ts)) (lR:fI rv 8 (bD rs)) (mS:fI uv 10 (bD us)) (uR:fI pv 7 (bD ps)) (ht:∀t∈ts,t.OK)
 (hp:∀p∈ps,p.length=7) (mN:ps.length<2^63) (H:aA):
 Sg 35 [.agg (yC g r0 r1 tv rv uv),.agg (oC k n pv)] H (.ret (.int .i64 (lN ts.length rs.length us.length k n ps))) H:=by
 have hpf:=uR.free (bF _);refine So bGt (by simp only[yC,oC,sf,mR.free (fX ht),lR.free (bF _),mS.free (bF _),hpf]) ?_ H;unfold W35;dsimp only;have eW:=fun h=>aAm (g:=g) (r0:=r0) (r1:=r1) (k:=k) (n:=n) mR lR mS hpf ht h;have GF:=RR k n hpf;have lp:=uR.len;simp only[dA] at lp;rw[aO] at lp
 have qC:¬(1<=k/\k<=8)->lN ts.length rs.length us.length k n ps=1:=fun h=>by
  have :yW k ts.length rs.length us.length=none:=by unfold yW;rw[if_neg (by omega),if_neg (by omega),if_neg (by omega),if_neg (by omega),if_neg (by omega)]
  unfold lN;rw[this]
 have gR:(1<=k/\k<=8)->lN ts.length rs.length us.length k n ps=if wW ts.length rs.length us.length k n=false then 1 else if(List.range ps.length).any (mK ps) then 1 else if Sr k ps.length then 2 else 0:=fun h=>by
  unfold lN wW
  cases hl:yW k ts.length rs.length us.length with
  |none=>
   unfold yW at hl;exfalso
   repeat' split at hl
   all_goals first|omega|cases hl
  |some p=>
   obtain⟨lo,hi⟩:=p;simp only[Dm,Bd,Bh];by_cases hh:n<lo\/n>hi
   . rw[if_pos hh,if_pos (by omega)]
   simp only[if_neg hh,if_neg (show ¬¬(lo<=n/\n<=hi) from fun h=>h (by omega))]
 unfold yC oC at eW;unfold oC at GF;generalize wW ts.length rs.length us.length k n=nb at *;generalize hR:lN ts.length rs.length us.length k n ps=R at *;refine bQ ?_;simp only[↓zP,zJ,seval,yC,oC];refine bR ?_;generalize hX:((aA.mk 0 .nil).alloc _).alloc _=HA;have g0:HA.get 0=some (.cells [.int .i64 g,.int .i64 r0,.int .i64 r1,tv,rv,uv] false):=by subst hX;simp only[zI,seval]
 have g1:HA.get 1=some (.cells [.int .i64 k,.int .i64 n,pv] false):=by subst hX;simp only[zI,seval]
 clear hX;refine bY fun f dQ=>?_;have f2:f 2=.ref 0 0:=by subst dQ;simp only[zB,seval]
 have f3:f 3=.ref 1 0:=by subst dQ;simp only[zB,seval]
 clear dQ;refine aJ fun K hK=>?_;generalize eC:decide (k<1)=b1 at *;generalize fV:decide (k>8)=b2 at *;cases b1;rotate_left
 . simp only[↓zP,zJ,seval,f3,g1,eC];refine Rx ?_;have :=Cp eC;rw[qC (by omega)];rfl
 cases b2;rotate_left
 . simp only[↓zP,zJ,seval,f3,g1,eC,fV];refine Rx ?_;have :=Cp fV;rw[qC (by omega)];rfl
 have hk8:1<=k/\k<=8:=by have :=Dn eC;have :=Dn fV;omega
 have gR:=gR hk8;have eW:=eW hk8;clear qC;have l6:∀a b c d e f:AV,6<=[a,b,c,d,e,f].length:=fun _ _ _ _ _ _=>by simp
 have l3:∀a b c:AV,3<=[a,b,c].length:=fun _ _ _=>by simp
 simp only[↓zP,zJ,seval,f2,f3,g0,g1,eC,fV];refine bZ (eW _) ?_;cases nb
 . refine Ty ?_;refine Rx ?_;rw[gR];rfl
 rw[if_neg (by decide)] at gR;refine Ty ?_;apply hK;clear hK K eC fV;refine aJ fun K hK=>?_;refine Tz ?_;refine bP [] (fun i vs H'=>H'=HA/\∀j,j<i->mK ps j=false) 0 ps.length (Az _) (by omega) (by decide) ?_ ?_ ?_ ?_ ?_
 . exact zq
 . exact⟨rfl,fun j hj=>absurd hj (An _)⟩
 . rintro i f4 H1 h0 hi hk e1 ⟨rfl,_⟩;have u3:f4 3=.ref 1 0:=by rw[hk 3 rfl];simp only[zB,seval];exact f3
   simp only[↓zP,zJ,seval,e1,u3,g1,lp];exact Zaf
 . rintro i f4 H1 h0 hi hk e1 ⟨rfl,bV⟩;have u3:f4 3=.ref 1 0:=by rw[hk 3 rfl];simp only[zB,seval];exact f3
   have aVl:pv=.bB 0 7 (bD ps):=uR.bB (i:=i) Zaz;have hg:=cD hi;have hg':0<i->(bD ps).getD (i -1) []=iC ps[i -1]:=fun _=>cD (by omega);have h7:=hp _ (Ac hi);have jx:=Km h7
   have fQ:mK ps i=false->∀j,j<i+1->mK ps j=false:=fun h j hj=>by
    by_cases e:j=i
    . subst e;exact h
    exact bV j (by omega)
   have eW:mK ps i=true->R=1:=fun h=>by rw[gR,if_pos (NB hi h)]
   have CX:mK ps i=(gW ps[i] != 0||(decide (0<i)&&decide (ps[i]=ps.getD (i -1) []))):=(by unfold mK;rw[show ps.getD i []=ps[i] from by simp[hi]]);have HR:0<i->ps.getD (i -1) []=ps[i -1]:=fun h0=>by simp[show i -1<ps.length from by omega]
   have h7':0<i->ps[i -1].length=7:=fun _=>hp _ (Ac (by omega));have Ta:(iC ps[i]).length=7:=(by rw[cC,h7]);rw[CX] at fQ eW;refine aL ?_;refine aJ fun K2 bW=>?_;refine Dz ?_;simp only[↓zP,zJ,seval,zD,e1,u3,g1,aVl,aB,aO,hi,hg,oL Ta];refine fH (jx _) ?_
   cases eC:(gW ps[i] != 0) with
   |true=>rw[eC] at eW;simp only[↓zP,zJ,seval,zD,eC,gU];apply bW;clear bW K2;refine Tz ?_;refine Rx ?_;rw[eW rfl];rfl
   |false=>
    rw[eC] at eW fQ;by_cases h0:0<i
    . have d0:=Aj (show(i:Int)>0 by omega);have hwi:IntKind.i64.wrap ((i:Int) -1)=((i -1:Nat):Int):=wI (by omega);have xG:i -1<ps.length:=(by omega);have XV:cK [.i,.i,.i,.i,.i,.i,.i] (iC ps[i]) (iC ps[i -1])=some (decide (ps[i]=ps[i -1])):=qL (n:=7) h7 (h7' h0);have aRx:(iC ps[i -1]).length=7:=(by rw[cC,h7' h0]);rw[Aj h0,HR h0] at eW fQ;simp only[↓zP,zJ,seval,zD,eC,d0,e1,u3,g1,aVl,hwi,aB,aO,hi,xG,hg,hg' h0,oL Ta,oL aRx,XV];apply bW;clear bW K2
      cases fV:decide (ps[i]=ps[i -1]) with
      |true=>rw[fV] at eW;refine Tz ?_;refine Rx ?_;rw[eW rfl];rfl
      |false=>rw[fV] at fQ;refine Tz ?_;exact⟨trivial,fQ rfl⟩
    have d0:=Ag (show ¬(i:Int)>0 by omega);rw[Ag h0] at fQ;simp only[↓zP,zJ,seval,zD,e1,eC,d0];exact ZaD
 rintro f4 H1 hk ⟨rfl,bV⟩;have u3:f4 3=.ref 1 0:=by rw[hk 3 rfl];simp only[zB,seval];exact f3
 rw[QK bV,if_neg (by decide)] at gR
 have hB:Sr k ps.length=if Sw k then decide ((ps.length:Int)<2)||decide ((ps.length:Int)>32) else decide ((ps.length:Int)>0):=rfl
 rw[hB] at gR;clear hB hk bV;refine Tx ?_;apply hK;clear hK K;generalize Sw k=mv at *;generalize SO:decide ((ps.length:Int)<2)=c1 at *;generalize AM:decide ((ps.length:Int)>32)=c2 at *;generalize hc3:decide ((ps.length:Int)>0)=c3 at *;refine bQ ?_;simp only[↓zP,zJ,seval,u3,g1,lp];refine bR ?_;refine aJ fun K hK=>?_;simp only[↓zP,zJ,seval,u3,g1];refine bZ (GF _) ?_;cases mv
 . simp only[↓zP,zJ,seval,u3,g1,gU];refine bZ (GF _) ?_;cases c3
   . simp only[↓zP,zJ,seval,hc3];apply hK;clear hK K;refine Tz ?_;refine Rx ?_;rw[gR];rfl
   simp only[↓zP,zJ,seval,hc3];refine Rx ?_;rw[gR];rfl
 cases c1
 . cases c2
   . simp only[↓zP,zJ,seval,u3,g1,SO,AM];refine bZ (GF _) ?_;refine Ty ?_;apply hK;clear hK K;refine Tz ?_;refine Rx ?_;rw[gR];rfl
   simp only[↓zP,zG,seval,SO,AM,gU];refine Rx ?_;rw[gR];rfl
 simp only[↓zP,zG,seval,SO,gU];refine Rx ?_;rw[gR];rfl
theorem _root_.Go.Av.Sound.wk1 {P:Program} {g:bG} {f:FuncId} {args:List AV} {H H':aA} {v v':AV} (h:Sound P g f args H (.ret v) H') (hw:Wk v v'):Sound P g f args H (.ret v') H':=
 ⟨h.1,fun G w us hG hv=>(h.2 G w us hG hv).mono fun e w' he=>by
   obtain⟨G',h1,h2,h3⟩:=he;refine⟨G',h1,h2,?_⟩
   cases e with
   |returned u=>change VR G' w' v u at h3;exact VR.wk hw h3
   |_=>exact h3.elim⟩
theorem fS.bDh {H:aA} {lo hi:Nat} {a b c d e f:AV} {s:Sc} (h:fS H lo hi a b c d e f s) (p7:∀r∈s.ps,r.length=7) (v3:∀r∈s.vs,r.length=3) (w3:∀r∈s.ws,r.length=3) (x:Int) (nw:Nat):
 fT H none nw 1 (.agg [a,b,c,d,e,f,.int .i64 x])=some (.agg [xI a 1 (bE s.st),xI b 7 (bD s.ps),xI c 3 (bD s.vs),xI d 3 (bD s.ws),xI e 1 (bE s.ta),xI f 1 (bE s.ac),.int .i64 x]):=by
 obtain⟨n1,n2,n3,n4,n5,r1,r2,r3,r4,r5,r6,_⟩:=h;simp only[fT,IG,r1.shut (jU _) (gX _),r2.shut (lF p7) (bF _),r3.shut (lF v3) (bF _),r4.shut (lF w3) (bF _),r5.shut (jU _) (gX _),r6.shut (jU _) (gX _)];rfl
theorem Ln.wkL {H:aA} {lo hi:Nat} {v:AV} {sz:Nat} {aY els':List (List AV)} (h:Ln H lo hi v sz aY) (hl:els'.length=aY.length):Wk (xI v sz els') (opV v sz els')/\fI (opV v sz els') sz els':=by
 rcases h with ⟨rfl,rfl|rfl⟩|⟨id,rfl,_,_,hg⟩
 . obtain rfl:els'=[]:=Cm hl;exact⟨.refl _,.inl ⟨rfl,rfl⟩⟩
 . obtain rfl:els'=[]:=Cm hl;exact⟨.bB 1 sz [] [] rfl (fun h=>h) rfl fun j hj=>absurd hj (An _),.inr rfl⟩
 exact⟨.refl _,.inr rfl⟩
theorem fS.wk7 {P:Program} {g:bG} {fid:FuncId} {args:List AV} {H0 H0' H:aA} {lo hi:Nat} {a b c d e f:AV} {s t:Sc} {x:Int} (h:fS H lo hi a b c d e f s) (hk:Kept s t) (hs:s.OK):
 (VG a b c d e f t).OK/\(Sound P g fid args H0 (.ret (.agg [xI a 1 (bE t.st),xI b 7 (bD t.ps),xI c 3 (bD t.vs),xI d 3 (bD t.ws),xI e 1 (bE t.ta),xI f 1 (bE t.ac),.int .i64 x])) H0'->Sound P g fid args H0 (.ret (.agg ((VG a b c d e f t).cs++[.int .i64 x]))) H0'):=by
 obtain⟨n1,n2,n3,n4,n5,r1,r2,r3,r4,r5,r6,_⟩:=h;have q1:=r1.wkL (els':=bE t.st) (by rw[bT,bT,hk.st]);have q2:=r2.wkL (els':=bD t.ps) (by rw[aO,aO,hk.ps]);have q3:=r3.wkL (els':=bD t.vs) (by rw[aO,aO,hk.vs]);have q4:=r4.wkL (els':=bD t.ws) (by rw[aO,aO,hk.ws]);have q5:=r5.wkL (els':=bE t.ta) (by rw[bT,bT,hk.ta]);have q6:=r6.wkL (els':=bE t.ac) (by rw[bT,bT,hk.ac]);refine⟨⟨q1.2,q2.2,q3.2,q4.2,q5.2,q6.2,hk.p7,hk.v3,hk.w3,by show t.st.length<_;rw[hk.st];exact hs.bB,by show t.ps.length<_;rw[hk.ps];exact hs.lps,by show t.vs.length<_;rw[hk.vs];exact hs.lvs,by show t.ws.length<_;rw[hk.ws];exact hs.lws,by show t.ta.length<_;rw[hk.ta];exact hs.lta,by show t.ac.length<_;rw[hk.ac];exact hs.lac⟩,fun hS=>hS.wk1 (.agg _ _ rfl fun j hj=>?_)⟩
 match j,hj with
 |0,_=>exact q1.1
 |1,_=>exact q2.1
 |2,_=>exact q3.1
 |3,_=>exact q4.1
 |4,_=>exact q5.1
 |5,_=>exact q6.1
 |6,_=>exact .refl _
theorem RJ {ts:List Th} {rs us:List (List Int)} {k n:Int} {qs:List (List Int)} {s:Sc} (hs:s.OK) (hy:YS ts rs us s) (hq:∀q∈qs,q.length=7/\kX q) (hc:lN ts.length rs.length us.length k n qs=0) (h7:k≠7) (h8:k≠8) (hr:lV s=true) (he:(DA ts rs us k n qs s).1=0):Kept s (BB ts k n qs s):=by have h:=bp (qs:=qs) hc h7 h8 hr he;have K:=IP (k:=k) (n:=n) hs hy hq hc;exact⟨by rw[h.ps];exact K.p7,by rw[h.vs];exact K.v3,by rw[h.ws];exact K.w3,by rw[h.st];exact K.st,by rw[h.ps];exact K.ps,by rw[h.vs];exact K.vs,by rw[h.ws];exact K.ws,by rw[h.ta];exact K.ta,by rw[h.ac];exact K.ac⟩
theorem Sm {α:Type} {P Q:Prop} [Decidable P] [Decidable Q] (h:P↔Q) {x y:α}:(if P then x else y)=if Q then x else y:=by
 by_cases hp:P
 . rw[if_pos hp,if_pos (h.1 hp)]
 rw[if_neg hp,if_neg (fun hq=>hp (h.2 hq))]
structure ApS (y o:List AV) (r:Nat) (x:List AV) (f:dE) (H:aA):Prop where
 w3:f 3=.ref 0 0
 w5:f 5=.ref 2 0
 w6:f 6=.ref 3 0
 w9:f 9=.ref r 0
 g0:H.get 0=some (.cells y false)
 g2:H.get 2=some (.cells o false)
 g3:H.get 3=some (.cells [.aR,.aR,.aR,.aR,.aR,.aR,.int .i64 0] false)
 g9:H.get r=some (.cells x false)
theorem ApS.dH {y o x:List AV} {r:Nat} {f f':dE} {H H':aA} (h:ApS y o r x f H) (h3:f' 3=f 3) (h5:f' 5=f 5) (h6:f' 6=f 6) (h9:f' 9=f 9) (hr:4<=r) (hk:∀j,j<4\/j=r->H'.get j=H.get j):ApS y o r x f' H':=
 ⟨h3.trans h.w3,h5.trans h.w5,h6.trans h.w6,h9.trans h.w9,(hk 0 (by omega)).trans h.g0,(hk 2 (by omega)).trans h.g2,(hk 3 (by omega)).trans h.g3,(hk r (by omega)).trans h.g9⟩
theorem lh {g r0 r1:Int} {ts:List Th} {rs us:List (List Int)} {tv rv uv pv:AV} {k n:Int} {qs:List (List Int)} {s:Sc} (hs:s.OK) (hy:YS ts rs us s) (mR:fI tv 14 (nG ts)) (lR:fI rv 8 (bD rs)) (mS:fI uv 10 (bD us))
 (uR:fI pv 7 (bD qs)) (hq:∀q∈qs,q.length=7/\kX q) (Ls:qs.length<2^63):
 ∃t:Sc,t.OK/\JK t (vZ ts rs us k n qs s).2/\∀H,Sg 9 [.agg (yC g r0 r1 tv rv uv),.agg s.cs,.agg (oC k n pv)] H (.ret (.agg (t.cs++[.int .i64 (vZ ts rs us k n qs s).1]))) H:=by
 obtain⟨HA,WH⟩:∃HA:aA,HA=((((aA.mk 0 .nil).alloc (.cells (yC g r0 r1 tv rv uv) false)).alloc (.cells s.cs false)).alloc (.cells (oC k n pv) false)).alloc (.cells [.aR,.aR,.aR,.aR,.aR,.aR,.int .i64 0] false):=⟨_,rfl⟩;have a0:HA.get 0=some (.cells (yC g r0 r1 tv rv uv) false):=by subst WH;simp only[zI,seval]
 have a1:HA.get 1=some (.cells s.cs false):=by subst WH;simp only[zI,seval]
 have a2:HA.get 2=some (.cells (oC k n pv) false):=by subst WH;simp only[zI,seval]
 have a3:HA.get 3=some (.cells [.aR,.aR,.aR,.aR,.aR,.aR,.int .i64 0] false):=by subst WH;simp only[zI,seval]
 have an:HA.next=4:=by subst WH;simp only[zI,seval]
 have vh:bO [.agg (yC g r0 r1 tv rv uv),.agg s.cs,.agg (oC k n pv)]=true:=by
  have h1:=Sc.free hs;have h2:bO (yC g r0 r1 tv rv uv)=true:=by simp only[yC,sf,mR.free (fX hy.ht),lR.free (bF _),mS.free (bF _)]
  have h3:bO (oC k n pv)=true:=by simp only[oC,sf,uR.free (bF _)]
  simp only[sf,h1,h2,h3]
 have S1:=aAb (g:=g) (r0:=r0) (r1:=r1) (k:=k) (n:=n) mR lR mS uR hy.ht (fun q h=>(hq q h).1) (by omega) HA;have S2:=aAs hs HA;obtain⟨a,b,c,d,e,f,H1,S4,M1,n1,k1⟩:=aAc hs HA;have b0:=(k1 0 (by omega)).trans a0;have b1:=(k1 1 (by omega)).trans a1;have b2:=(k1 2 (by omega)).trans a2;have b3:=(k1 3 (by omega)).trans a3;obtain⟨HB,uw⟩:∃HB:aA,HB=(H1.alloc (.cells [.aR,.aR,.aR,.aR,.aR,.aR] false)).set H1.next (.cells [a,b,c,d,e,f] false):=⟨_,rfl⟩;have cn:HB.next=H1.next+1:=by subst uw;simp only[aA.bC,aA.aS]
 have ck:∀j,j<H1.next->HB.get j=H1.get j:=fun j hj=>by subst uw;rw[aA.aD,if_neg (by omega),aA.aG,if_neg (by omega)]
 have c0:=(ck 0 (by omega)).trans b0;have c1:=(ck 1 (by omega)).trans b1;have c2:=(ck 2 (by omega)).trans b2;have c3:=(ck 3 (by omega)).trans b3;have c9:HB.get H1.next=some (.cells [a,b,c,d,e,f] false):=by subst uw;rw[aA.aD,if_pos rfl]
 have M2:fS HB HA.next H1.next a b c d e f s:=M1.dH fun j hj=>ck j (by omega);have l6:(yC g r0 r1 tv rv uv).length=6:=rfl;have l3:(oC k n pv).length=3:=rfl;have ls:s.cs.length=6:=rfl;have k0:(oC k n pv).getD 0 aC=.int .i64 k:=rfl;have p7:∀x:AV,(s.cs++[x]).length=7:=fun _=>rfl;have p6:∀x:AV,List.take 6 (s.cs++[x])=s.cs:=fun _=>rfl;have pd:∀x:AV,List.drop 6 (s.cs++[x])=[x]:=fun _=>rfl;have pe:∀x:AV,List.drop 7 (s.cs++[x])=[]:=fun _=>rfl;have o1:(oC k n pv).getD 1 aC=.int .i64 n:=rfl;have o2:(oC k n pv).getD 2 aC=pv:=rfl;obtain⟨mV,hmV⟩:∃mV:Sc->AV,∀t,mV t=.agg [xI a 1 (bE t.st),xI b 7 (bD t.ps),xI c 3 (bD t.vs),xI d 3 (bD t.ws),xI e 1 (bE t.ta),xI f 1 (bE t.ac),.int .i64 0]:=⟨_,fun _=>rfl⟩
 obtain⟨V,hV⟩:∃V:AV,V=if lN ts.length rs.length us.length k n qs≠0 then(.agg (s.cs++[.int .i64 (lN ts.length rs.length us.length k n qs)])) else if k=7\/k=8 then .agg (s.cs++[.int .i64 0]) else if lV s=false then(.agg (s.cs++[.int .i64 4])) else if jL ts rs us k n qs s≠0 then(.agg (s.cs++[.int .i64 (jL ts rs us k n qs s)])) else mV (BB ts k n qs s):=⟨_,rfl⟩
 have sS:∀(H:aA) (x:Int) (nw:Nat),fT H none nw 1 (.agg (s.cs++[.int .i64 x]))=some (.agg (s.cs++[.int .i64 x])):=fun H x nw=>by
  have g1:∀{v:AV} {sz:Nat} {aY:List (List AV)},fI v sz aY->(∀e∈aY,bO e=true)->jH H none nw v=some v:=fun h hf=>by
   rcases h with ⟨rfl,_⟩|rfl
   . rfl
   simp only[jH,tM hf];rfl
  simp only[fT,IG,Sc.cs,Ep,Dc,g1 hs.st (gX _),g1 hs.ps (bF _),g1 hs.vs (bF _),g1 hs.ws (bF _),g1 hs.ta (gX _),g1 hs.ac (gX _)];rfl
 have hW:∀H,Sg 9 [.agg (yC g r0 r1 tv rv uv),.agg s.cs,.agg (oC k n pv)] H (.ret V) H:=fun H=>by
  refine eQ fit fG is9 (Ak rfl) vh ?_ H;unfold W9;dsimp only;refine bQ ?_;refine Ty ?_;refine bR ?_;rw[<-WH];refine bY fun f0 dQ=>?_;have v3:f0 3=.ref 0 0:=by subst dQ;simp only[zB,seval]
  have v4:f0 4=.ref 1 0:=by subst dQ;simp only[zB,seval]
  have v5:f0 5=.ref 2 0:=by subst dQ;simp only[zB,seval]
  have v6:f0 6=.ref 3 0:=by subst dQ;simp only[zB,seval]
  clear dQ WH;refine bQ ?_;simp only[↓zP,zJ,seval,v3,v5,a0,a2,oL l6,oL l3];refine bZ (S1) ?_;refine Tz ?_;refine fD ?_;by_cases hc:lN ts.length rs.length us.length k n qs=0;rotate_left
  . rw[if_pos hc] at hV;have hb:(lN ts.length rs.length us.length k n qs != 0)=true:=De.2 hc;simp only[↓zP,zJ,seval,hb,v4,v6,a1,a3,oL ls,p7,p6,pe];refine⟨rfl,_,by simp only[↓zP,zR,seval,v6];rfl,?_⟩;subst hV;exact⟨_,1,rfl,fun nw=>sS _ _ nw⟩
  have hb:(lN ts.length rs.length us.length k n qs != 0)=false:=bne_eq_false_iff_eq.2 hc;rw[if_neg (not_not_intro hc)] at hV;simp only[↓zP,zG,seval,hb];refine fD ?_;by_cases h7:k=7
  . have d7:(k==7)=true:=Ca.2 h7;rw[if_pos (.inl h7)] at hV;simp only[↓zP,zJ,seval,v4,v5,v6,a1,a2,a3,l3,k0,oL ls,d7,p7];refine⟨rfl,_,by simp only[↓zP,zR,seval,v6];rfl,?_⟩;subst hV;exact⟨_,1,rfl,fun nw=>sS _ _ nw⟩
  have d7:(k==7)=false:=Bl.2 h7;by_cases h8:k=8
  . have d8:(k==8)=true:=Ca.2 h8;rw[if_pos (.inr h8)] at hV;simp only[↓zP,zJ,seval,v4,v5,v6,a1,a2,a3,l3,k0,oL ls,d7,d8,p7];refine⟨rfl,_,by simp only[↓zP,zR,seval,v6];rfl,?_⟩;subst hV;exact⟨_,1,rfl,fun nw=>sS _ _ nw⟩
  have d8:(k==8)=false:=Bl.2 h8;rw[if_neg (fun h=>h.elim h7 h8)] at hV;simp only[↓zP,zJ,seval,v5,a2,l3,k0,d7,d8];refine bR ?_;refine bY fun f1 mM=>?_;have w3:=Ks mM v3;have w4:=Ks mM v4;have w5:=Ks mM v5;have w6:=Ks mM v6;clear mM v3 v4 v5 v6;refine bQ ?_;simp only[↓zP,zJ,seval,w4,a1,oL ls];refine bZ (S2) ?_;refine Tz ?_;refine bR ?_;have Zp:=fun h h'=>RJ (k:=k) (n:=n) hs hy hq hc h7 h8 h h';have S3:=fun h=>mq (g:=g) (r0:=r0) (r1:=r1) hs hy mR lR mS uR (fun q h=>(hq q h).1) hc h7 h8 h;have hse:=Rc (qs:=qs) (s:=s) hc h7 h8;refine bQ ?_;generalize lV s=rb at *;cases rb
  . rw[if_pos rfl] at hV;simp only[↓zP,zJ,seval,w4,w6,a1,a3,oL ls,p7,p6,pe];refine⟨rfl,_,by simp only[↓zP,zR,seval,w6];rfl,?_⟩;subst hV;exact⟨_,1,rfl,fun nw=>sS _ _ nw⟩
  rw[if_neg (by decide)] at hV;refine Ty ?_;refine bR ?_;have S3:=S3 HA;generalize jL ts rs us k n qs s=E at *;refine bQ ?_;simp only[↓zP,zJ,seval,w3,w4,w5,a0,a1,a2,oL l6,oL ls,oL l3];refine bZ (S3) ?_;refine Tz ?_;refine fD ?_;by_cases hx:E=0;rotate_left
  . have hb:(E != 0)=true:=De.2 hx;rw[if_pos hx] at hV;simp only[↓zP,zJ,seval,hb,w4,w6,a1,a3,oL ls,p7,p6,pe];refine⟨rfl,_,by simp only[↓zP,zR,seval,w6];rfl,?_⟩;subst hV;exact⟨_,1,rfl,fun nw=>sS _ _ nw⟩
  have hb:(E != 0)=false:=bne_eq_false_iff_eq.2 hx;rw[if_neg (not_not_intro hx)] at hV;simp only[↓zP,zG,seval,hb];refine bR ?_;have hKp:=Zp rfl (hse.symm.trans hx);refine bY fun f2 mM=>?_;have v3:=Ks mM w3;have v4:=Ks mM w4;have v5:=Ks mM w5;have v6:=Ks mM w6;clear mM w3 w4 w5 w6;refine bQ ?_;simp only[↓zP,zJ,seval,v4,a1,oL ls];refine bZ (S4) ?_;refine Ty ?_;refine bR ?_;rw[<-uw];refine bY fun f1 mM=>?_;have w3:=Ks mM v3;have w5:=Ks mM v5;have w6:=Ks mM v6;have w9:f1 9=.ref H1.next 0:=by subst mM;simp only[zB,seval]
  clear mM v3 v4 v5 v6 uw;generalize H1.next=r9 at *;have A0:ApS (yC g r0 r1 tv rv uv) (oC k n pv) r9 [a,b,c,d,e,f] f1 HB:=⟨w3,w5,w6,w9,c0,c2,c3,c9⟩;clear w3 w5 w6 w9;have hr9:4<=r9:=by omega
  have eW:∀{k':Int},¬k=k'->(k==k')=false:=fun h=>Bl.2 h
  have hrg:(k=1\/k=2)->1<=n/\n<=ts.length/\2<=qs.length/\qs.length<=32:=fun h=>by
   rcases vD hc with ⟨_,h⟩|⟨h,_⟩|⟨h,_⟩|h|h
   . exact h
   all_goals (exfalso;omega)
  have bFs:(k=3\/k=4)->0<=n/\n<rs.length:=fun h=>by
   rcases vD hc with ⟨h',_⟩|⟨_,h⟩|⟨h',_⟩|h'|h'
   . exfalso;omega
   . exact h
   all_goals (exfalso;omega)
  have bFt:(k=5\/k=6)->0<=n/\n<us.length:=fun h=>by
   rcases vD hc with ⟨h',_⟩|⟨h',_⟩|⟨_,h⟩|h'|h'
   . exfalso;omega
   . exfalso;omega
   . exact h
   all_goals (exfalso;omega)
  have e1:=hy.st;have e2:=hy.ps;have e5:=hy.ta;have e6:=hy.ac;have b1':=hy.sJ;have b2':=hy.FJ;have b3':=hy.ph;have y3:(yC g r0 r1 tv rv uv).getD 3 aC=tv:=rfl;refine aJ fun K hK=>?_
  have key:∀(f':dE) (H':aA),ApS (yC g r0 r1 tv rv uv) (oC k n pv) r9 [a,b,c,d,e,f] f' H'->fS H' HA.next r9 a b c d e f (if k=1 then BB ts k n qs s else s)->K f' [] H':=by
   intro f' H' hA hM;apply hK;clear hK K;clear A0 M2;revert f' H';intro f1 HB A0 M2;refine aJ fun K hK=>?_
   have key:∀(f':dE) (H':aA),ApS (yC g r0 r1 tv rv uv) (oC k n pv) r9 [a,b,c,d,e,f] f' H'->fS H' HA.next r9 a b c d e f (if k=1\/k=2 then BB ts k n qs s else s)->K f' [] H':=by
    intro f' H' hA hM;apply hK;clear hK K;clear A0 M2;revert f' H';intro f1 HB A0 M2;refine aJ fun K hK=>?_
    have key:∀(f':dE) (H':aA),ApS (yC g r0 r1 tv rv uv) (oC k n pv) r9 [a,b,c,d,e,f] f' H'->fS H' HA.next r9 a b c d e f (if(k=1\/k=2)\/(k=3\/k=4) then BB ts k n qs s else s)->K f' [] H':=by
     intro f' H' hA hM;apply hK;clear hK K;clear A0 M2;revert f' H';intro f1 HB A0 M2;refine aJ fun K hK=>?_
     have key:∀(f':dE) (H':aA),ApS (yC g r0 r1 tv rv uv) (oC k n pv) r9 [a,b,c,d,e,f] f' H'->fS H' HA.next r9 a b c d e f (if((k=1\/k=2)\/(k=3\/k=4))\/(k=5\/k=6) then BB ts k n qs s else s)->K f' [] H':=by
      intro f' H' hA hM;apply hK;clear hK K
      have h16:((k=1\/k=2)\/(k=3\/k=4))\/(k=5\/k=6):=by
       rcases vD hc with ⟨h',_⟩|⟨h',_⟩|⟨h',_⟩|h'|h'
       . exact .inl (.inl h')
       . exact .inl (.inr h')
       . exact .inr h'
       . exact absurd h' h7
       exact absurd h' h8
      rw[if_pos h16] at hM;simp only[↓zP,zJ,seval,hA.w6,hA.w9,hA.g3,hA.g9];refine⟨rfl,_,by simp only[↓zP,zR,seval,hA.w6];rfl,?_⟩;subst hV;rw[hmV];exact⟨_,1,rfl,fun nw=>(hM.aKd fun j h1 h2=>by rw[aA.aD,if_neg (by omega)]).bDh (fun r h=>(hKp.p7 r h).1) (fun r h=>(hKp.v3 r h).1) (fun r h=>(hKp.w3 r h).1) 0 nw⟩
     clear hK;by_cases h1:k=5\/k=6;rotate_left
     . have h2:=not_or.1 h1;simp only[↓zP,zJ,seval,A0.w5,A0.g2,l3,k0,eW h2.1,eW h2.2];exact key _ _ (A0.dH zq zq zq zq hr9 fun _ _=>rfl) (by rw[Sm (show(((k=1\/k=2)\/(k=3\/k=4))\/(k=5\/k=6))↔((k=1\/k=2)\/(k=3\/k=4)) from ⟨fun h=>by omega,fun h=>by omega⟩)];exact M2)
     obtain⟨x1,x2⟩:=bFt h1;obtain⟨m,hm⟩:∃m:Nat,n=m:=⟨n.toNat,by omega⟩;have hn:m<s.ac.length:=by omega
     have hO:BB ts k n qs s={s with ac:=s.ac.set m (k==5)}:=by unfold BB;rw[if_neg (by omega),if_neg (by omega),if_neg (by omega),hm,Dr]
     rw[if_neg (show ¬((k=1\/k=2)\/(k=3\/k=4)) by omega)] at M2;obtain⟨id,rfl,i1,i2,hg,nX⟩:=M2.ac hn;have y1:m+1<=(bE s.ac).flatten.length:=(by rw[gN (jU _),bT];omega);have o1:(oC k n pv).getD 1 aC=.int .i64 (m:Int):=o1.trans (by rw[hm])
     have fin:∀{f':dE} (bk:Bool),(k==5)=bk->f' 3=f1 3->f' 5=f1 5->f' 6=f1 6->f' 9=f1 9->K f' [] (HB.set id (.cells ((bE s.ac).flatten.take m++[.bool bk]++(bE s.ac).flatten.drop (m+1)) true)):=fun bk hbk g3 g5 g6 g9=>by
      rw[sQ hn]
      exact key _ _ (A0.dH g3 g5 g6 g9 hr9 fun j hj=>by rw[aA.aD,if_neg (by omega)]) (by
       rw[if_pos (by omega),hO,hbk]
       exact nX _ _ (by rw[aA.aD,if_pos rfl]) fun j _ _ h=>by rw[aA.aD,if_neg h])
     by_cases h3:k=5
     . have d1:(k==5)=true:=Ca.2 h3;simp only[↓zP,zJ,seval,A0.w5,A0.w9,A0.g2,A0.g9,l3,k0,o1,d1,aB,hn,hg,y1];exact fin true d1 zq zq zq zq
     have d1:=eW h3;have d2:(k==6)=true:=Ca.2 (by omega);simp only[↓zP,zJ,seval,A0.w5,A0.w9,A0.g2,A0.g9,l3,k0,o1,d1,d2,aB,hn,hg,y1];exact fin false d1 zq zq zq zq
    clear hK;by_cases h1:k=3\/k=4;rotate_left
    . have h2:=not_or.1 h1;simp only[↓zP,zJ,seval,A0.w5,A0.g2,l3,k0,eW h2.1,eW h2.2];exact key _ _ (A0.dH zq zq zq zq hr9 fun _ _=>rfl) (by rw[Sm (show((k=1\/k=2)\/(k=3\/k=4))↔(k=1\/k=2) from ⟨fun h=>by omega,fun h=>by omega⟩)];exact M2)
    obtain⟨x1,x2⟩:=bFs h1;obtain⟨m,hm⟩:∃m:Nat,n=m:=⟨n.toNat,by omega⟩;have hn:m<s.ta.length:=by omega
    have hO:BB ts k n qs s={s with ta:=s.ta.set m (k==3)}:=by unfold BB;rw[if_neg (by omega),if_neg (by omega),if_pos h1,hm,Dr]
    rw[if_neg (show ¬(k=1\/k=2) by omega)] at M2;obtain⟨id,rfl,i1,i2,hg,nX⟩:=M2.ta hn;have y1:m+1<=(bE s.ta).flatten.length:=(by rw[gN (jU _),bT];omega);have o1:(oC k n pv).getD 1 aC=.int .i64 (m:Int):=o1.trans (by rw[hm])
    have fin:∀{f':dE} (bk:Bool),(k==3)=bk->f' 3=f1 3->f' 5=f1 5->f' 6=f1 6->f' 9=f1 9->K f' [] (HB.set id (.cells ((bE s.ta).flatten.take m++[.bool bk]++(bE s.ta).flatten.drop (m+1)) true)):=fun bk hbk g3 g5 g6 g9=>by
     rw[sQ hn]
     exact key _ _ (A0.dH g3 g5 g6 g9 hr9 fun j hj=>by rw[aA.aD,if_neg (by omega)]) (by
      rw[if_pos (by omega),hO,hbk]
      exact nX _ _ (by rw[aA.aD,if_pos rfl]) fun j _ _ h=>by rw[aA.aD,if_neg h])
    by_cases h3:k=3
    . have d1:(k==3)=true:=Ca.2 h3;simp only[↓zP,zJ,seval,A0.w5,A0.w9,A0.g2,A0.g9,l3,k0,o1,d1,aB,hn,hg,y1];exact fin true d1 zq zq zq zq
    have d1:=eW h3;have d2:(k==4)=true:=Ca.2 (by omega);simp only[↓zP,zJ,seval,A0.w5,A0.w9,A0.g2,A0.g9,l3,k0,o1,d1,d2,aB,hn,hg,y1];exact fin false d1 zq zq zq zq
   clear hK;by_cases h1:k=2;rotate_left
   . simp only[↓zP,zJ,seval,A0.w5,A0.g2,l3,k0,eW h1];exact key _ _ (A0.dH zq zq zq zq hr9 fun _ _=>rfl) (by rw[Sm (show(k=1\/k=2)↔k=1 from ⟨fun h=>h.elim id fun h=>absurd h h1,.inl⟩)];exact M2)
   obtain⟨x1,x2,q1,q2⟩:=hrg (.inr h1);obtain⟨m,hm⟩:∃m:Nat,n -1=m:=⟨(n -1).toNat,by omega⟩;have hmt:(n -1).toNat=m:=(by omega);have Zs:IntKind.i64.wrap (n -1)=(m:Int):=(by rw[wrap_i64 (by omega) (by omega),hm]);have hn:m<s.st.length:=(by omega);have hp:m<s.ps.length:=(by omega);have gD:m<ts.length:=(by omega);have t2:=y3.trans (mR.bB (i:=m) (by rw[dL];exact gD));have vJ:=oS gD;have rO:=hy.ht _ (Ac gD);have Ph:=Th.len rO;have k7':ts[m].cs.drop 7=iC ts[m].store:=rfl;have hlq:(iC ts[m].store).length=7:=by rw[cC,rO.store]
   have hO:BB ts k n qs s={s with st:=s.st.set m false,ps:=s.ps.set m ts[m].store}:=by unfold BB;rw[if_neg (by omega),if_pos h1,hmt,show(ts.map (·.store)).getD m []=ts[m].store by simp[gD]]
   rw[if_neg (show ¬k=1 by omega)] at M2;obtain⟨id,rfl,i1,i2,hg,nX⟩:=M2.st hn;have y1:m+1<=(bE s.st).flatten.length:=(by rw[gN (jU _),bT];omega);have y2:m*7+7<=(bD s.ps).flatten.length:=(by rw[gN (lF fun r h=>(hs.p7 r h).1),aO];omega);have d1:(k==2)=true:=Ca.2 h1;simp only[↓zP,zJ,seval,A0.w5,A0.w9,A0.g2,A0.g9,l3,k0,o1,Zs,d1,aB,hn,hg,y1];rw[sQ hn];generalize hX:HB.set id _=HC;have k2:∀j,j≠id->HC.get j=HB.get j:=fun j hj=>by subst hX;rw[aA.aD,if_neg hj]
   have M3:=nX HC _ Zal fun j _ _ h=>k2 j h;clear hX;refine bY fun f2 mM=>?_;have A1:=A0.dH (f':=f2) (H':=HC) ZaG ZaG ZaG ZaG hr9 fun j hj=>k2 j (by omega);clear mM;obtain⟨id2,rfl,j1,j2,Np,xg⟩:=M3.ps hp;refine Dz ?_;simp only[↓zP,zJ,seval,zD,A1.w3,A1.w5,A1.w9,A1.g0,A1.g2,A1.g9,l3,l6,o1,t2,Zs,aB,dL,gD,vJ,k7',oL hlq,hp,Np,y2]
   exact key _ _ (A1.dH zq zq zq zq hr9 fun j hj=>by rw[aA.aD,if_neg (by omega)]) (by
    rw[if_pos (.inr h1),hO]
    exact xg _ _ (by rw[aA.aD,if_pos rfl,xB (fun r h=>(hs.p7 r h).1) hp rO.store]) fun j _ _ h=>by rw[aA.aD,if_neg h])
  clear hK;by_cases h1:k=1;rotate_left
  . simp only[↓zP,zJ,seval,A0.w5,A0.g2,l3,k0,eW h1];exact key _ _ (A0.dH zq zq zq zq hr9 fun _ _=>rfl) (by rw[if_neg h1];exact M2)
  obtain⟨x1,x2,q1,q2⟩:=hrg (.inl h1);obtain⟨m,hm⟩:∃m:Nat,n -1=m:=⟨(n -1).toNat,by omega⟩;have hmt:(n -1).toNat=m:=by omega
  have Zs:IntKind.i64.wrap (n -1)=(m:Int):=by rw[wrap_i64 (by omega) (by omega),hm]
  have hn:m<s.st.length:=by omega
  have hp:m<s.ps.length:=by omega
  have hqi:qs.length -1<qs.length:=by omega
  have t2:=o2.trans (uR.bB (i:=qs.length -1) (by rw[aO];exact hqi));have Zj:=cD hqi;have xi:=(hq _ (Ac hqi)).1;have hlq:(iC qs[qs.length -1]).length=7:=by rw[cC,xi]
  have hwq:IntKind.i64.wrap ((qs.length:Int) -1)=((qs.length -1:Nat):Int):=wI (by omega)
  have hO:BB ts k n qs s={s with st:=s.st.set m true,ps:=s.ps.set m qs[qs.length -1]}:=by unfold BB;rw[if_pos h1,hmt,show qs.getD (qs.length -1) []=qs[qs.length -1] by simp[hqi]]
  obtain⟨id,rfl,i1,i2,hg,nX⟩:=M2.st hn;have y1:m+1<=(bE s.st).flatten.length:=by rw[gN (jU _),bT];omega
  have y2:m*7+7<=(bD s.ps).flatten.length:=by rw[gN (lF fun r h=>(hs.p7 r h).1),aO];omega
  have d1:(k==1)=true:=Ca.2 h1;simp only[↓zP,zJ,seval,A0.w5,A0.w9,A0.g2,A0.g9,l3,k0,o1,Zs,d1,aB,hn,hg,y1];rw[sQ hn];generalize hX:HB.set id _=HC;have k2:∀j,j≠id->HC.get j=HB.get j:=fun j hj=>by subst hX;rw[aA.aD,if_neg hj]
  have M3:=nX HC _ Zal fun j _ _ h=>k2 j h;clear hX;refine bY fun f2 mM=>?_;have A1:=A0.dH (f':=f2) (H':=HC) ZaG ZaG ZaG ZaG hr9 fun j hj=>k2 j (by omega);clear mM;obtain⟨id2,rfl,j1,j2,Np,xg⟩:=M3.ps hp;refine Dz ?_;simp only[↓zP,zJ,seval,zD,A1.w5,A1.w9,A1.g2,A1.g9,l3,o1,t2,Zs,hwq,aB,aO,hqi,Zj,oL hlq,hp,Np,y2]
  exact key _ _ (A1.dH zq zq zq zq hr9 fun j hj=>by rw[aA.aD,if_neg (by omega)]) (by
   rw[if_pos (h1),hO]
   exact xg _ _ (by rw[aA.aD,if_pos rfl,xB (fun r h=>(hs.p7 r h).1) hp xi]) fun j _ _ h=>by rw[aA.aD,if_neg h])
 unfold vZ;by_cases hc:lN ts.length rs.length us.length k n qs=0;rotate_left
 . rw[if_pos hc] at hV ⊢;exact Zax
 rw[if_neg (not_not_intro hc)] at hV ⊢;by_cases h78:k=7\/k=8
 . rw[if_pos h78] at hV ⊢;exact Zax
 rw[if_neg h78] at hV ⊢;by_cases hr:lV s=false
 . rw[if_pos hr] at hV ⊢;exact Zax
 rw[if_neg hr] at hV ⊢;have h7:k≠7:=fun h=>h78 (.inl h);have h8:k≠8:=fun h=>h78 (.inr h);have hse:=Rc (qs:=qs) (s:=s) hc h7 h8;rw[hse] at hV;by_cases hx:(DA ts rs us k n qs s).1=0;rotate_left
 . rw[if_pos hx] at hV ⊢;exact Zax
 rw[if_neg (not_not_intro hx)] at hV ⊢;subst hV;rw[hmV] at hW;have hr':lV s=true:=by simpa using hr
 have hk:=RJ (k:=k) (n:=n) hs hy hq hc h7 h8 hr' hx;have hE:=bp (qs:=qs) hc h7 h8 hr' hx;exact⟨VG a b c d e f (BB ts k n qs s),(M2.wk7 (P:=Tryz.prog) (g:=gv) (fid:=0) (args:=[]) (H0:=HA) (H0':=HA) (x:=0) hk hs).1,⟨hE.st,hE.ps,hE.vs,hE.ws,hE.ta,hE.ac⟩,fun H=>by rw[hx];exact(M2.wk7 hk hs).2 (hW H)⟩
end Go.Proofs.YtgggiembljfnhaaGreatDoor
