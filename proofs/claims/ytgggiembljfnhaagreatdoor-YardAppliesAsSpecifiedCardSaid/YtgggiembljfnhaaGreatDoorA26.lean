/-
  Part of the proof of statement 11
-/
import Derived.Test.YtgggiembljfnhaaGreatDoorA07
import Derived.Test.YtgggiembljfnhaaGreatDoorA25
set_option maxRecDepth 100000
set_option maxHeartbeats 16000000
set_option linter.unusedVariables false
set_option linter.unusedSimpArgs false
namespace Go.Proofs.YtgggiembljfnhaaGreatDoor
open Go Go.Av
def W72:{x // KU Tryz.prog gv true Tryz.f72=some x}:=⟨_,cX⟩
theorem bCd:kH Tryz.prog gv true 72 W72.1:=jC Tryz.func72 (by kernel_rfl) W72.2
def W74:{x // KU Tryz.prog gv true Tryz.f74=some x}:=⟨_,cX⟩
theorem bCf:kH Tryz.prog gv true 74 W74.1:=jC Tryz.func74 (by kernel_rfl) W74.2
def W73:{x // KU Tryz.prog gv true Tryz.f73=some x}:=⟨_,cX⟩
theorem bCe:kH Tryz.prog gv true 73 W73.1:=jC Tryz.func73 (by kernel_rfl) W73.2
def aOa:CW Tryz.f233:=⟨_,cX⟩
theorem aZc:Fi 233 aOa:=cM Tryz.func233 aOa
def aOd:CW Tryz.f236:=⟨_,cX⟩
theorem aZf:Fi 236 aOd:=cM Tryz.func236 aOd
def aOb:CW Tryz.f234:=⟨_,cX⟩
theorem aZd:Fi 234 aOb:=cM Tryz.func234 aOb
def aQc:CW Tryz.f325:=⟨_,uJ⟩
theorem bBg:Fi 325 aQc:=cM Tryz.func325 aQc
def aPl:CW Tryz.f292:=⟨_,uJ⟩
theorem bAo:Fi 292 aPl:=cM Tryz.func292 aPl
def aPm:CW Tryz.f293:=⟨_,cX⟩
theorem bAp:Fi 293 aPm:=cM Tryz.func293 aPm
attribute [local congr] aT aI aM aH aW aQ aN aF aX
attribute [local irreducible] FC bS eG
def Ln (H:aA) (lo hi:Nat) (v:AV) (sz:Nat) (aY:List (List AV)):Prop:=
 (aY=[]/\(v=.aR\/v=.bB 1 sz []))\/∃id,v=.sl id sz 0 aY.length aY.length/\lo<=id/\id<hi/\H.get id=some (.cells aY.flatten true)
theorem Ln.dH {H H':aA} {lo hi WQ gO:Nat} {v:AV} {sz:Nat} {aY:List (List AV)} (h:Ln H lo hi v sz aY) (h1:WQ<=lo) (h2:hi<=gO) (hg:∀j,lo<=j->j<hi->H'.get j=H.get j):Ln H' WQ gO v sz aY:=by
 rcases h with h|⟨id,h,a,b,c⟩
 . exact .inl h
 exact .inr ⟨id,h,by omega,by omega,by rw[hg id a b];exact c⟩
theorem Ln.at {H:aA} {lo hi:Nat} {v:AV} {sz:Nat} {aY:List (List AV)} (h:Ln H lo hi v sz aY) {i:Nat} (gO:i<aY.length):
 ∃id,v=.sl id sz 0 aY.length aY.length/\lo<=id/\id<hi/\H.get id=some (.cells aY.flatten true):=by
 rcases h with ⟨rfl,_⟩|h
 . exact absurd gO (An _)
 exact h
def clV (H:aA) (v:AV) (sz:Nat) (aY:List (List AV)):AV:=match v with
 |.aR=>.aR
 |_=>if aY=[] then .bB 1 sz [] else .sl H.next sz 0 aY.length aY.length
def gd (H:aA) (aY:List (List AV)):aA:=if aY=[] then H else H.alloc (.cells aY.flatten true)
theorem UE (H:aA) (aY:List (List AV)):H.next<=(gd H aY).next:=by
 unfold gd;split
 . exact Ab _
 exact Zag
theorem ZF (H:aA) (aY:List (List AV)) {j:Nat} (hj:j<H.next):(gd H aY).get j=H.get j:=by
 unfold gd;split
 . rfl
 rw[aA.aG,if_neg (by omega)]
theorem aIf {H:aA} {v:AV} {sz:Nat} {aY:List (List AV)} (h:fI v sz aY):Ln (gd H aY) H.next (gd H aY).next (clV H v sz aY) sz aY:=by
 unfold clV gd
 rcases h with ⟨rfl,rfl⟩|rfl
 . exact .inl ⟨rfl,.inl rfl⟩
 by_cases he:aY=[]
 . simp only[if_pos he];exact .inl ⟨he,.inr rfl⟩
 simp only[if_neg he];exact .inr ⟨_,rfl,Ab _,by simp only[aA.aS];omega,by rw[aA.aG,if_pos rfl]⟩
theorem MG {H:aA} {sz bytes tag:Nat} {aY:List (List AV)} (h:aY.length*bytes<=2^40):eB H sz bytes true (.bB 1 sz []) aY=some (clV H (.bB 0 sz aY) sz aY,gd H aY):=by
 unfold eB clV gd;by_cases he:aY=[]
 . subst he;rfl
 have cP:aY.isEmpty=false:=by cases aY with
  |nil=>exact absurd rfl he
  |cons _ _=>rfl
 simp only[cP,if_neg he,kL,Dc,Bm,Cs,if_true,Bb,Bq];rw[if_pos ⟨trivial,h⟩]
theorem SA {v:AV} {aY:List (List AV)} (h:fI v 1 aY) (hl:aY.length<2^30) (H:aA):Sg 72 [v] H (.ret (clV H v 1 aY)) (gd H aY):=by
 have ha:=MG (H:=H) (sz:=1) (bytes:=1) (tag:=0) (aY:=aY) (by omega);refine gH bCd (Ak rfl) ?_ (by rfl);unfold W72;exact Zap
theorem ZG {v:AV} {aY:List (List AV)} (h:fI v 3 aY) (hl:aY.length<2^30) (H:aA):Sg 74 [v] H (.ret (clV H v 3 aY)) (gd H aY):=by
 have ha:=MG (H:=H) (sz:=3) (bytes:=24) (tag:=0) (aY:=aY) (by omega);refine gH bCf (Ak rfl) ?_ (by rfl);unfold W74;exact Zap
theorem aDt {v:AV} {aY:List (List AV)} (h:fI v 7 aY) (hl:aY.length<2^30) (H:aA):Sg 73 [v] H (.ret (clV H v 7 aY)) (gd H aY):=by
 have ha:=MG (H:=H) (sz:=7) (bytes:=56) (tag:=0) (aY:=aY) (by omega);refine gH bCe (Ak rfl) ?_ (by rfl);unfold W73;exact Zap
def W88:CW Tryz.f88:=⟨_,cX⟩
theorem bHv:Fi 88 W88:=cM Tryz.func88 W88
def W8:CW Tryz.f8:=⟨_,cX⟩
theorem is8:Fi 8 W8:=cM Tryz.func8 W8
def W16:CW Tryz.f16:=⟨_,cX⟩
theorem bGk:Fi 16 W16:=cM Tryz.func16 W16
def W33:CW Tryz.f33:=⟨_,uJ⟩
theorem bBh:Fi 33 W33:=cM Tryz.func33 W33
def W34:CW Tryz.f34:=⟨_,cX⟩
theorem bBo:Fi 34 W34:=cM Tryz.func34 W34
def W75:CW Tryz.f75:=⟨_,uJ⟩
theorem bCg:Fi 75 W75:=cM Tryz.func75 W75
def W77:CW Tryz.f77:=⟨_,uJ⟩
theorem bCi:Fi 77 W77:=cM Tryz.func77 W77
def W79:CW Tryz.f79:=⟨_,uJ⟩
theorem bCj:Fi 79 W79:=cM Tryz.func79 W79
def W76:CW Tryz.f76:=⟨_,cX⟩
theorem bCh:Fi 76 W76:=cM Tryz.func76 W76
def fS (H:aA) (lo hi:Nat) (a b c d e f:AV) (s:Sc):Prop:=∃n1 n2 n3 n4 n5,Ln H lo n1 a 1 (bE s.st)/\Ln H n1 n2 b 7 (bD s.ps)/\Ln H n2 n3 c 3 (bD s.vs)/\Ln H n3 n4 d 3 (bD s.ws)/\Ln H n4 n5 e 1 (bE s.ta)/\Ln H n5 hi f 1 (bE s.ac)/\lo<=n1/\n1<=n2/\n2<=n3/\n3<=n4/\n4<=n5/\n5<=hi
theorem Ln.one {H:aA} {lo hi:Nat} {v:AV} {sz:Nat} {aY:List (List AV)} (h:Ln H lo hi v sz aY):v.cells=[v]/\v.yP=false:=by rcases h with ⟨_,rfl|rfl⟩|⟨id,rfl,_⟩<;>exact⟨rfl,rfl⟩
def ClP (f:FuncId) (v:AV) (sz:Nat) (aY:List (List AV)) (H:aA) (v':AV) (H':aA):Prop:=Sg f [v] H (.ret v') H'/\Ln H' H.next H'.next v' sz aY/\H.next<=H'.next/\∀j,j<H.next->H'.get j=H.get j
theorem QP {f:FuncId} {v:AV} {sz:Nat} {aY:List (List AV)} (hv:fI v sz aY) (h:∀H,Sg f [v] H (.ret (clV H v sz aY)) (gd H aY)) (H:aA):∃v' H',ClP f v sz aY H v' H':=
 ⟨_,_,h H,aIf hv,UE _ _,fun j hj=>ZF _ _ hj⟩
theorem ig {s:Sc} (hs:s.OK) (H:aA):
 ∃a b c d e f H',Sg 33 [.agg s.cs] H (.ret (.agg [a,b,c,d,e,f])) H'/\fS H' H.next H'.next a b c d e f s/\H.next<=H'.next/\∀j,j<H.next->H'.get j=H.get j:=by
 obtain⟨H0,uu⟩:∃H0:aA,H0=(H.alloc (.cells s.cs false)).alloc (.cells [.aR,.aR,.aR,.aR,.aR,.aR] false):=⟨_,rfl⟩;have n0:H0.next=H.next+2:=by subst uu;simp only[aA.aS]
 have g0:H0.get H.next=some (.cells s.cs false):=by subst uu;rw[aA.aG,if_neg Zag,aA.aG,if_pos rfl]
 have t0:H0.get (H.next+1)=some (.cells [.aR,.aR,.aR,.aR,.aR,.aR] false):=by subst uu;rw[aA.aG,if_pos (by simp only[aA.aS])]
 have k0:∀j,j<H.next->H0.get j=H.get j:=fun j hj=>by subst uu;rw[aA.aG,if_neg Zag,aA.aG,if_neg (by omega)]
 have bl:∀l:List Bool,l.length<2^30->(bE l).length<2^30:=fun l h=>by rw[bT];exact h
 have rl:∀l:List (List Int),l.length<2^30->(bD l).length<2^30:=fun l h=>by rw[aO];exact h
 have c0:=True.intro;obtain⟨a,H1,c1,r1,n1,k1⟩:=QP hs.st (SA hs.st (bl _ hs.bB)) H0;obtain⟨b,H2,c2,r2,n2,k2⟩:=QP hs.ps (aDt hs.ps (rl _ hs.lps)) H1;obtain⟨c,H3,c3,r3,n3,k3⟩:=QP hs.vs (ZG hs.vs (rl _ hs.lvs)) H2;obtain⟨d,H4,c4,r4,n4,k4⟩:=QP hs.ws (ZG hs.ws (rl _ hs.lws)) H3;obtain⟨e,H5,c5,r5,n5,k5⟩:=QP hs.ta (SA hs.ta (bl _ hs.lta)) H4;obtain⟨f,H6,c6,r6,n6,k6⟩:=QP hs.ac (SA hs.ac (bl _ hs.lac)) H5;have q1:H1.get H.next=some (.cells s.cs false):=(k1 _ (by omega)).trans g0;have q2:H2.get H.next=some (.cells s.cs false):=(k2 _ (by omega)).trans q1;have q3:H3.get H.next=some (.cells s.cs false):=(k3 _ (by omega)).trans q2;have q4:H4.get H.next=some (.cells s.cs false):=(k4 _ (by omega)).trans q3;have q5:H5.get H.next=some (.cells s.cs false):=(k5 _ (by omega)).trans q4
 have t6:H6.get (H.next+1)=some (.cells [.aR,.aR,.aR,.aR,.aR,.aR] false):=by rw[k6 _ (by omega),k5 _ (by omega),k4 _ (by omega),k3 _ (by omega),k2 _ (by omega),k1 _ (by omega)];exact t0
 have hc:∀i,i<6->s.cs.getD i aC=[s.sv,s.pv,s.vv,s.wv,s.tv,s.av].getD i aC:=fun _ _=>rfl;refine⟨a,b,c,d,e,f,H6.set (H.next+1) (.cells [a,b,c,d,e,f] false),gH bBh (Ak rfl) ?_ (by rfl),?_,?_,?_⟩
 . unfold W33;dsimp only;refine bQ ?_;refine Ty ?_;refine bR ?_;rw[<-uu];refine bQ ?_;refine Dz ?_;simp only[↓zP,zJ,seval,zD,g0,Sc.cs];apply iO (hS:=c1)
   . decide
   . exact ZaN
   . exact n1
   . intro x hx _;simp only[Am,Bg,Dd] at hx
     rcases hx with rfl<;>exact(k1 _ (by omega)).symm
   simp only[↓zP,zJ,seval,zD,g0,q1,Sc.cs];apply iO (hS:=c2)
   . decide
   . exact ZaN
   . exact n2
   . intro x hx _;simp only[Am,Bg,Dd] at hx
     rcases hx with rfl|rfl<;>exact(k2 _ (by omega)).symm
   simp only[↓zP,zJ,seval,zD,g0,q1,q2,Sc.cs];apply iO (hS:=c3)
   . decide
   . exact ZaN
   . exact n3
   . intro x hx _;simp only[Am,Bg,Dd] at hx
     rcases hx with rfl|rfl|rfl<;>exact(k3 _ (by omega)).symm
   simp only[↓zP,zJ,seval,zD,g0,q1,q2,q3,Sc.cs];apply iO (hS:=c4)
   . decide
   . exact ZaN
   . exact n4
   . intro x hx _;simp only[Am,Bg,Dd] at hx
     rcases hx with rfl|rfl|rfl|rfl<;>exact(k4 _ (by omega)).symm
   simp only[↓zP,zJ,seval,zD,g0,q1,q2,q3,q4,Sc.cs];apply iO (hS:=c5)
   . decide
   . exact ZaN
   . exact n5
   . intro x hx _;simp only[Am,Bg,Dd] at hx
     rcases hx with rfl|rfl|rfl|rfl|rfl<;>exact(k5 _ (by omega)).symm
   simp only[↓zP,zJ,seval,zD,g0,q1,q2,q3,q4,q5,Sc.cs];apply iO (hS:=c6)
   . decide
   . exact ZaN
   . exact n6
   . intro x hx _;simp only[Am,Bg,Dd] at hx
     rcases hx with rfl|rfl|rfl|rfl|rfl|rfl<;>exact(k6 _ (by omega)).symm
   obtain⟨a1,a2⟩:=r1.one;obtain⟨b1,b2⟩:=r2.one;obtain⟨d1,d2⟩:=r3.one;obtain⟨e1,e2⟩:=r4.one;obtain⟨i1,i2⟩:=r5.one;obtain⟨j1,j2⟩:=r6.one;simp only[↓zP,zJ,seval,zD,a1,a2,b1,b2,d1,d2,e1,e2,i1,i2,j1,j2,t6];refine bR ?_;refine Tx ?_;refine Rx ?_;exact⟨rfl,rfl⟩
 . have st:∀j,H0.next<=j->(H6.set (H.next+1) (.cells [a,b,c,d,e,f] false)).get j=H6.get j:=fun j hj=>by rw[aA.aD,if_neg (by omega)]
   exact Zae
 . simp only[aA.bC];omega
 intro j hj;rw[aA.aD,if_neg (by omega),k6 _ (by omega),k5 _ (by omega),k4 _ (by omega),k3 _ (by omega),k2 _ (by omega),k1 _ (by omega),k0 _ hj]
def uC (st:List Bool) (n:Int):Bool:=n==0||st.getD (n -1).toNat false
theorem nH:∀l:List Bool,(bE l).flatten=l.map AV.bool
 |[]=>rfl
 |b::l=>by have :=nH l;simp only[bE,Cd,Bp,List.singleton_append] at this ⊢;rw[this]
theorem xF {H:aA} {p lo hi:Nat} {a b c d e f:AV} {o:Bool} {s:Sc} {n:Int} (hp:H.get p=some (.cells [a,b,c,d,e,f] o)) (hm:fS H lo hi a b c d e f s) (h0:0<=n) (hn:n<=s.st.length) (hl:s.st.length<2^30):
 Sg 76 [.ref p 0,.int .i64 n] H (.ret (.bool (uC s.st n))) H:=by
 refine gH bCh (Ak rfl) ?_ (by rfl);unfold W76;dsimp only;obtain⟨n1,n2,n3,n4,n5,r1,r2,r3,r4,r5,r6,_⟩:=hm;by_cases hz:n=0
 . subst hz;refine Ty ?_;refine Rx ?_;exact⟨rfl,rfl⟩
 have hi:(n -1).toNat<(bE s.st).length:=by rw[bT];omega
 obtain⟨id,rfl,_,_,hg⟩:=r1.at hi;have hb:(n==0)=false:=Bl.2 hz;obtain⟨k,hk⟩:∃k:Nat,n -1=k:=⟨(n -1).toNat,by omega⟩;have hw:IntKind.i64.wrap (n -1)=(k:Int):=by rw[wrap_i64 (by omega) (by omega),hk]
 have tQ:k<s.st.length:=by rw[bT] at hi;omega
 have hv:uC s.st n=s.st[k]:=by unfold uC;rw[hb,hk];simp[tQ]
 have sH:(s.st.map AV.bool).getD k aC=.bool s.st[k]:=by simp[tQ]
 have DQ:k+1<=s.st.length:=tQ;rw[nH] at hg;simp only[↓zP,zJ,seval,hb,hp,hg,hw,aB,bT,tQ,DQ,Af,sH];refine Rx ?_;rw[hv];exact⟨rfl,rfl⟩
theorem Ln.put {H H':aA} {lo hi id:Nat} {v:AV} {sz:Nat} {aY els':List (List AV)} (h:Ln H lo hi v sz aY) (hv:v=.sl id sz 0 aY.length aY.length) (hl:els'.length=aY.length) (hg:H'.get id=some (.cells els'.flatten true)) (gO:lo<=id/\id<hi):Ln H' lo hi v sz els':=
 .inr ⟨id,by rw[hv,hl],gO.1,gO.2,hg⟩
theorem fS.st {H:aA} {lo hi:Nat} {a b c d e f:AV} {s:Sc} (hm:fS H lo hi a b c d e f s) {k:Nat} (hk:k<s.st.length):
 ∃id,a=.sl id 1 0 s.st.length s.st.length/\lo<=id/\id<hi/\H.get id=some (.cells (bE s.st).flatten true)/\∀(H':aA) (x:Bool),H'.get id=some (.cells (bE (s.st.set k x)).flatten true)->(∀j,lo<=j->j<hi->j≠id->H'.get j=H.get j)->fS H' lo hi a b c d e f {s with st:=s.st.set k x}:=by
 obtain⟨n1,n2,n3,n4,n5,r1,r2,r3,r4,r5,r6,o1,o2,o3,o4,o5,o6⟩:=hm;obtain⟨id,rfl,i1,i2,hg⟩:=r1.at (i:=k) (by simp only[bE,Af];exact hk);exact⟨id,by simp only[bE,Af],by omega,by omega,hg,fun H' x h1 h2=>⟨n1,n2,n3,n4,n5,r1.put rfl (by simp only[bE,Af,By]) h1 ⟨i1,i2⟩,r2.dH (Ab _) (Ab _) fun j g1 g2=>h2 j (by omega) (by omega) (by omega),r3.dH (Ab _) (Ab _) fun j g1 g2=>h2 j (by omega) (by omega) (by omega),r4.dH (Ab _) (Ab _) fun j g1 g2=>h2 j (by omega) (by omega) (by omega),r5.dH (Ab _) (Ab _) fun j g1 g2=>h2 j (by omega) (by omega) (by omega),r6.dH (Ab _) (Ab _) fun j g1 g2=>h2 j (by omega) (by omega) (by omega),o1,o2,o3,o4,o5,o6⟩⟩
theorem fS.ps {H:aA} {lo hi:Nat} {a b c d e f:AV} {s:Sc} (hm:fS H lo hi a b c d e f s) {k:Nat} (hk:k<s.ps.length):
 ∃id,b=.sl id 7 0 s.ps.length s.ps.length/\lo<=id/\id<hi/\H.get id=some (.cells (bD s.ps).flatten true)/\∀(H':aA) (x:List Int),H'.get id=some (.cells (bD (s.ps.set k x)).flatten true)->(∀j,lo<=j->j<hi->j≠id->H'.get j=H.get j)->fS H' lo hi a b c d e f {s with ps:=s.ps.set k x}:=by
 obtain⟨n1,n2,n3,n4,n5,r1,r2,r3,r4,r5,r6,o1,o2,o3,o4,o5,o6⟩:=hm;obtain⟨id,rfl,i1,i2,hg⟩:=r2.at (i:=k) (by simp only[bD,Af];exact hk);exact⟨id,by simp only[bD,Af],by omega,by omega,hg,fun H' x h1 h2=>⟨n1,n2,n3,n4,n5,r1.dH (Ab _) (Ab _) fun j g1 g2=>h2 j (by omega) (by omega) (by omega),r2.put rfl (by simp only[bD,Af,By]) h1 ⟨i1,i2⟩,r3.dH (Ab _) (Ab _) fun j g1 g2=>h2 j (by omega) (by omega) (by omega),r4.dH (Ab _) (Ab _) fun j g1 g2=>h2 j (by omega) (by omega) (by omega),r5.dH (Ab _) (Ab _) fun j g1 g2=>h2 j (by omega) (by omega) (by omega),r6.dH (Ab _) (Ab _) fun j g1 g2=>h2 j (by omega) (by omega) (by omega),o1,o2,o3,o4,o5,o6⟩⟩
theorem fS.vs {H:aA} {lo hi:Nat} {a b c d e f:AV} {s:Sc} (hm:fS H lo hi a b c d e f s) {k:Nat} (hk:k<s.vs.length):
 ∃id,c=.sl id 3 0 s.vs.length s.vs.length/\lo<=id/\id<hi/\H.get id=some (.cells (bD s.vs).flatten true)/\∀(H':aA) (x:List Int),H'.get id=some (.cells (bD (s.vs.set k x)).flatten true)->(∀j,lo<=j->j<hi->j≠id->H'.get j=H.get j)->fS H' lo hi a b c d e f {s with vs:=s.vs.set k x}:=by
 obtain⟨n1,n2,n3,n4,n5,r1,r2,r3,r4,r5,r6,o1,o2,o3,o4,o5,o6⟩:=hm;obtain⟨id,rfl,i1,i2,hg⟩:=r3.at (i:=k) (by simp only[bD,Af];exact hk);exact⟨id,by simp only[bD,Af],by omega,by omega,hg,fun H' x h1 h2=>⟨n1,n2,n3,n4,n5,r1.dH (Ab _) (Ab _) fun j g1 g2=>h2 j (by omega) (by omega) (by omega),r2.dH (Ab _) (Ab _) fun j g1 g2=>h2 j (by omega) (by omega) (by omega),r3.put rfl (by simp only[bD,Af,By]) h1 ⟨i1,i2⟩,r4.dH (Ab _) (Ab _) fun j g1 g2=>h2 j (by omega) (by omega) (by omega),r5.dH (Ab _) (Ab _) fun j g1 g2=>h2 j (by omega) (by omega) (by omega),r6.dH (Ab _) (Ab _) fun j g1 g2=>h2 j (by omega) (by omega) (by omega),o1,o2,o3,o4,o5,o6⟩⟩
theorem fS.ws {H:aA} {lo hi:Nat} {a b c d e f:AV} {s:Sc} (hm:fS H lo hi a b c d e f s) {k:Nat} (hk:k<s.ws.length):
 ∃id,d=.sl id 3 0 s.ws.length s.ws.length/\lo<=id/\id<hi/\H.get id=some (.cells (bD s.ws).flatten true)/\∀(H':aA) (x:List Int),H'.get id=some (.cells (bD (s.ws.set k x)).flatten true)->(∀j,lo<=j->j<hi->j≠id->H'.get j=H.get j)->fS H' lo hi a b c d e f {s with ws:=s.ws.set k x}:=by
 obtain⟨n1,n2,n3,n4,n5,r1,r2,r3,r4,r5,r6,o1,o2,o3,o4,o5,o6⟩:=hm;obtain⟨id,rfl,i1,i2,hg⟩:=r4.at (i:=k) (by simp only[bD,Af];exact hk);exact⟨id,by simp only[bD,Af],by omega,by omega,hg,fun H' x h1 h2=>⟨n1,n2,n3,n4,n5,r1.dH (Ab _) (Ab _) fun j g1 g2=>h2 j (by omega) (by omega) (by omega),r2.dH (Ab _) (Ab _) fun j g1 g2=>h2 j (by omega) (by omega) (by omega),r3.dH (Ab _) (Ab _) fun j g1 g2=>h2 j (by omega) (by omega) (by omega),r4.put rfl (by simp only[bD,Af,By]) h1 ⟨i1,i2⟩,r5.dH (Ab _) (Ab _) fun j g1 g2=>h2 j (by omega) (by omega) (by omega),r6.dH (Ab _) (Ab _) fun j g1 g2=>h2 j (by omega) (by omega) (by omega),o1,o2,o3,o4,o5,o6⟩⟩
theorem fS.ta {H:aA} {lo hi:Nat} {a b c d e f:AV} {s:Sc} (hm:fS H lo hi a b c d e f s) {k:Nat} (hk:k<s.ta.length):
 ∃id,e=.sl id 1 0 s.ta.length s.ta.length/\lo<=id/\id<hi/\H.get id=some (.cells (bE s.ta).flatten true)/\∀(H':aA) (x:Bool),H'.get id=some (.cells (bE (s.ta.set k x)).flatten true)->(∀j,lo<=j->j<hi->j≠id->H'.get j=H.get j)->fS H' lo hi a b c d e f {s with ta:=s.ta.set k x}:=by
 obtain⟨n1,n2,n3,n4,n5,r1,r2,r3,r4,r5,r6,o1,o2,o3,o4,o5,o6⟩:=hm;obtain⟨id,rfl,i1,i2,hg⟩:=r5.at (i:=k) (by simp only[bE,Af];exact hk);exact⟨id,by simp only[bE,Af],by omega,by omega,hg,fun H' x h1 h2=>⟨n1,n2,n3,n4,n5,r1.dH (Ab _) (Ab _) fun j g1 g2=>h2 j (by omega) (by omega) (by omega),r2.dH (Ab _) (Ab _) fun j g1 g2=>h2 j (by omega) (by omega) (by omega),r3.dH (Ab _) (Ab _) fun j g1 g2=>h2 j (by omega) (by omega) (by omega),r4.dH (Ab _) (Ab _) fun j g1 g2=>h2 j (by omega) (by omega) (by omega),r5.put rfl (by simp only[bE,Af,By]) h1 ⟨i1,i2⟩,r6.dH (Ab _) (Ab _) fun j g1 g2=>h2 j (by omega) (by omega) (by omega),o1,o2,o3,o4,o5,o6⟩⟩
theorem fS.ac {H:aA} {lo hi:Nat} {a b c d e f:AV} {s:Sc} (hm:fS H lo hi a b c d e f s) {k:Nat} (hk:k<s.ac.length):
 ∃id,f=.sl id 1 0 s.ac.length s.ac.length/\lo<=id/\id<hi/\H.get id=some (.cells (bE s.ac).flatten true)/\∀(H':aA) (x:Bool),H'.get id=some (.cells (bE (s.ac.set k x)).flatten true)->(∀j,lo<=j->j<hi->j≠id->H'.get j=H.get j)->fS H' lo hi a b c d e f {s with ac:=s.ac.set k x}:=by
 obtain⟨n1,n2,n3,n4,n5,r1,r2,r3,r4,r5,r6,o1,o2,o3,o4,o5,o6⟩:=hm;obtain⟨id,rfl,i1,i2,hg⟩:=r6.at (i:=k) (by simp only[bE,Af];exact hk);exact⟨id,by simp only[bE,Af],by omega,by omega,hg,fun H' x h1 h2=>⟨n1,n2,n3,n4,n5,r1.dH (Ab _) (Ab _) fun j g1 g2=>h2 j (by omega) (by omega) (by omega),r2.dH (Ab _) (Ab _) fun j g1 g2=>h2 j (by omega) (by omega) (by omega),r3.dH (Ab _) (Ab _) fun j g1 g2=>h2 j (by omega) (by omega) (by omega),r4.dH (Ab _) (Ab _) fun j g1 g2=>h2 j (by omega) (by omega) (by omega),r5.dH (Ab _) (Ab _) fun j g1 g2=>h2 j (by omega) (by omega) (by omega),r6.put rfl (by simp only[bE,Af,By]) h1 ⟨i1,i2⟩,o1,o2,o3,o4,o5,o6⟩⟩
def W78:CW Tryz.f78:=⟨_,cX⟩
theorem bHn:Fi 78 W78:=cM Tryz.func78 W78
def W80:CW Tryz.f80:=⟨_,cX⟩
theorem bHp:Fi 80 W80:=cM Tryz.func80 W80
def W81:CW Tryz.f81:=⟨_,uJ⟩
theorem bHq:Fi 81 W81:=cM Tryz.func81 W81
def W82:CW Tryz.f82:=⟨_,cX⟩
theorem bHr:Fi 82 W82:=cM Tryz.func82 W82
def xA (ta:List Bool) (rs:List (List Int)) (n:Int) (k:Nat):Bool:=ta.getD k false&&((rs.getD k []).getD 0 0==n||(rs.getD k []).getD 1 0==n)
def wY (ac:List Bool) (us:List (List Int)) (n:Int) (k:Nat):Bool:=ac.getD k false&&(us.getD k []).getD 0 0==n
def mO (s:Sc) (rs us:List (List Int)) (n:Int):Bool:=(List.range rs.length).any (xA s.ta rs n)||(List.range us.length).any (wY s.ac us n)
theorem aHr {g r0 r1:Int} {ts:List Th} {rs us:List (List Int)} {tv rv uv:AV} (mR:fI tv 14 (nG ts)) (lR:fI rv 8 (bD rs)) (mS:fI uv 10 (bD us)) (hr:∀r∈rs,r.length=8) (hu:∀p∈us,p.length=10)
 {H:aA} {p lo hi:Nat} {a b c d e f:AV} {o:Bool} {s:Sc} {n:Int} (hp:H.get p=some (.cells [a,b,c,d,e,f] o)) (hm:fS H lo hi a b c d e f s) (mN:p<H.next) (Lq:hi<=H.next)
 (hta:s.ta.length=rs.length) (hac:s.ac.length=us.length) (FJ:rs.length<2^30) (ph:us.length<2^30):
 ∃H',Sg 78 [.agg (yC g r0 r1 tv rv uv),.ref p 0,.int .i64 n] H (.ret (.bool (mO s rs us n))) H'/\H.next<=H'.next/\∀j,j<H.next->H'.get j=H.get j:=by
 obtain⟨_,H',⟨rfl,hq⟩,hS⟩:=cY (R:=fun o H'=>o=.ret (.bool (mO s rs us n))/\H.next<=H'.next/\∀j,j<H.next->H'.get j=H.get j) fit bHn (args:=[.agg (yC g r0 r1 tv rv uv),.ref p 0,.int .i64 n]) (H:=H) (Ak rfl) (by
  unfold W78;dsimp only;have lr:=lR.len;have lu:=mS.len;simp only[dA] at lr lu;rw[aO] at lr lu;have l6:(yC g r0 r1 tv rv uv).length=6:=rfl;refine bQ ?_;simp only[↓zP,zJ,seval,yC];refine bR ?_;generalize hX:H.alloc _=HA;have gy:HA.get H.next=some (.cells [.int .i64 g,.int .i64 r0,.int .i64 r1,tv,rv,uv] false):=by subst hX;rw[aA.aG,if_pos rfl]
  have gn:H.next+1<=HA.next:=by subst hX;simp only[aA.aS];omega
  have gk:∀j,j<H.next->HA.get j=H.get j:=fun j hj=>by subst hX;rw[aA.aG,if_neg (by omega)]
  clear hX;refine bY fun f0 dQ=>?_;have v1:f0 1=.ref p 0:=by subst dQ;exact rfl
  have v2:f0 2=.int .i64 n:=by subst dQ;exact rfl
  have v3:f0 3=.ref H.next 0:=by subst dQ;simp only[zB,seval]
  clear dQ;refine aJ fun K hK=>?_;refine bQ ?_;simp only[↓zP,zJ,seval,v3,gy,lr];refine bR ?_;refine dD [] (fun i vs H'=>H'.get H.next=some (.cells [.int .i64 g,.int .i64 r0,.int .i64 r1,tv,rv,uv] false)/\H.next+1<=H'.next/\(∀j,j<H.next->H'.get j=H.get j)/\∀k,k<i->xA s.ta rs n k=false) rs.length (by omega) (by decide) ?_ ?_ ?_ ?_ ?_
  . exact zq
  . exact zq
  . exact⟨gy,gn,gk,fun k hk=>absurd hk (An _)⟩
  . rintro i f4 H1 gO hk x1 ⟨m0,mn,mk,bV⟩;have u1:f4 1=.ref p 0:=by rw[hk 1 rfl];simp only[zB,seval];exact v1
    have u2:f4 2=.int .i64 n:=(by rw[hk 2 rfl];simp only[zB,seval];exact v2);have yV:rv=.bB 0 8 (bD rs):=lR.bB (i:=i) (by rw[aO];exact gO);have u12:f4 12=.bB 0 8 (bD rs):=(by rw[hk 12 rfl];simp only[zB,seval];exact yV);have hg:=cD gO;have h8:=hr _ (Ac gO);have hpp:=(mk p mN).trans hp;obtain⟨n1,n2,n3,n4,n5,_,_,_,_,r5,_,ob1,ob2,ob3,ob4,ob5,ob6⟩:=hm;have gD:i<s.ta.length:=(by omega);obtain⟨id,rfl,il,ih,FA⟩:=r5.at (i:=i) (by rw[bT];exact gD);rw[nH] at FA;have aRu:=(mk id (by omega)).trans FA;have CX:xA s.ta rs n i=(s.ta[i]&&(rs[i].getD 0 0==n||rs[i].getD 1 0==n)):=by unfold xA;simp[gD,gO]
    have fQ:xA s.ta rs n i=false->∀k,k<i+1->xA s.ta rs n k=false:=fun h k hk=>by
     exact Zas
    have xV:xA s.ta rs n i=true->mO s rs us n=true:=fun h=>by unfold mO;rw[Bw.2 ⟨i,Au.2 gO,h⟩];rfl
    rw[CX] at fQ xV;have sH:(s.ta.map AV.bool).getD i aC=.bool s.ta[i]:=(by simp[gD]);have DQ:i+1<=s.ta.length:=gD;generalize s.ta[i]=tb at *;generalize rs[i]=r at *;have pM:(iC r).length=8:=(by rw[cC,h8]);have a0:=dV (l:=r) (i:=0) (by omega);have a1:=dV (l:=r) (i:=1) (by omega);refine aL ?_;refine bQ ?_;simp only[↓zP,zJ,seval,x1,u12,aB,aO,gO,hg,oL pM];refine bR ?_;generalize hX:(H1.alloc _).set H1.next _=H3;have CI:∀j,j<H1.next->H3.get j=H1.get j:=fun j hj=>by subst hX;rw[aA.aD,if_neg (by omega),aA.aG,if_neg (by omega)]
    have y8:H3.get H1.next=some (.cells (iC r) false):=Zal;have yn:H.next+1<=H3.next:=Zay;have y0:=(CI _ (by omega)).trans m0;have yp:=(CI _ (by omega)).trans hpp;have yi:=(CI id (by omega)).trans aRu;have yk:∀j,j<H.next->H3.get j=H.get j:=fun j hj=>(CI j (by omega)).trans (mk j hj);clear hX CI;generalize H1.next=r8 at *;generalize hx:r.getD 0 0=x at *;generalize hz:r.getD 1 0=z at *;generalize eC:(x==n)=b1 at *;generalize fV:(z==n)=b2 at *;cases tb
    . simp only[↓zP,zJ,seval,u1,yp,aB,bT,gD,DQ,yi,sH,Af,gU];exact⟨y0,yn,yk,fQ rfl⟩
    cases b1;rotate_left
    . simp only[↓zP,zJ,seval,u1,u2,yp,aB,bT,gD,DQ,yi,sH,Af,y8,pM,a0,eC];refine Rx ?_;exact⟨by rw[xV rfl];rfl,by omega,yk⟩
    cases b2
    . simp only[↓zP,zJ,seval,u1,u2,yp,aB,bT,gD,DQ,yi,sH,Af,y8,pM,a0,a1,eC,fV];exact⟨y0,yn,yk,fQ rfl⟩
    simp only[↓zP,zJ,seval,u1,u2,yp,aB,bT,gD,DQ,yi,sH,Af,y8,pM,a0,a1,eC,fV];refine Rx ?_;exact⟨by rw[xV rfl];rfl,by omega,yk⟩
  rintro f2 H2 hk ⟨m0,mn,mk,Uh⟩;have w1:f2 1=.ref p 0:=by rw[hk 1 rfl];simp only[zB,seval];exact v1
  have w2:f2 2=.int .i64 n:=by rw[hk 2 rfl];simp only[zB,seval];exact v2
  have w3:f2 3=.ref H.next 0:=by rw[hk 3 rfl];simp only[zB,seval];exact v3
  clear hk;apply hK;clear hK K;refine aJ fun K hK=>?_;refine bQ ?_;simp only[↓zP,zJ,seval,w3,m0,lu];refine bR ?_;refine dD [] (fun i vs H'=>H'.get H.next=some (.cells [.int .i64 g,.int .i64 r0,.int .i64 r1,tv,rv,uv] false)/\H.next+1<=H'.next/\(∀j,j<H.next->H'.get j=H.get j)/\∀k,k<i->wY s.ac us n k=false) us.length (by omega) (by decide) ?_ ?_ ?_ ?_ ?_
  . exact zq
  . exact zq
  . exact⟨m0,mn,mk,fun k hk=>absurd hk (An _)⟩
  . rintro i f4 H1 gO hk x1 ⟨m0,mn,mk,bV⟩;have u1:f4 1=.ref p 0:=by rw[hk 1 rfl];simp only[zB,seval];exact w1
    have u2:f4 2=.int .i64 n:=(by rw[hk 2 rfl];simp only[zB,seval];exact w2);have yV:uv=.bB 0 10 (bD us):=mS.bB (i:=i) (by rw[aO];exact gO);have u40:f4 40=.bB 0 10 (bD us):=(by rw[hk 40 rfl];simp only[zB,seval];exact yV);have hg:=cD gO;have h8:=hu _ (Ac gO);have hpp:=(mk p mN).trans hp;obtain⟨n1,n2,n3,n4,n5,_,_,_,_,_,r6,ob1,ob2,ob3,ob4,ob5,ob6⟩:=hm;have gD:i<s.ac.length:=(by omega);obtain⟨id,rfl,il,ih,FA⟩:=r6.at (i:=i) (by rw[bT];exact gD);rw[nH] at FA;have aRu:=(mk id (by omega)).trans FA;have CX:wY s.ac us n i=(s.ac[i]&&us[i].getD 0 0==n):=by unfold wY;simp[gD,gO]
    have fQ:wY s.ac us n i=false->∀k,k<i+1->wY s.ac us n k=false:=fun h k hk=>by
     exact Zas
    have xV:wY s.ac us n i=true->mO s rs us n=true:=fun h=>by unfold mO;rw[Bw.2 ⟨i,Au.2 gO,h⟩,Gf]
    rw[CX] at fQ xV;have sH:(s.ac.map AV.bool).getD i aC=.bool s.ac[i]:=(by simp[gD]);have DQ:i+1<=s.ac.length:=gD;generalize s.ac[i]=tb at *;generalize us[i]=r at *;have pM:(iC r).length=10:=(by rw[cC,h8]);have a0:=dV (l:=r) (i:=0) (by omega);refine aL ?_;refine bQ ?_;simp only[↓zP,zJ,seval,x1,u40,aB,aO,gO,hg,oL pM];refine bR ?_;generalize hX:(H1.alloc _).set H1.next _=H3;have CI:∀j,j<H1.next->H3.get j=H1.get j:=fun j hj=>by subst hX;rw[aA.aD,if_neg (by omega),aA.aG,if_neg (by omega)]
    have y8:H3.get H1.next=some (.cells (iC r) false):=Zal;have yn:H.next+1<=H3.next:=Zay;have y0:=(CI _ (by omega)).trans m0;have yp:=(CI _ (by omega)).trans hpp;have yi:=(CI id (by omega)).trans aRu;have yk:∀j,j<H.next->H3.get j=H.get j:=fun j hj=>(CI j (by omega)).trans (mk j hj);clear hX CI;generalize H1.next=r8 at *;generalize hx:r.getD 0 0=x at *;generalize eC:(x==n)=b1 at *;cases tb
    . simp only[↓zP,zJ,seval,u1,yp,aB,bT,gD,DQ,yi,sH,Af];exact⟨y0,yn,yk,fQ rfl⟩
    cases b1
    . simp only[↓zP,zJ,seval,u1,u2,yp,aB,bT,gD,DQ,yi,sH,Af,y8,pM,a0,eC];exact⟨y0,yn,yk,fQ rfl⟩
    simp only[↓zP,zJ,seval,u1,u2,yp,aB,bT,gD,DQ,yi,sH,Af,y8,pM,a0,eC];refine Rx ?_;exact⟨by rw[xV rfl];rfl,by omega,yk⟩
  rintro f2 H2 hk ⟨m0,mn,mk,bV⟩
  have eW:mO s rs us n=false:=by unfold mO;rw[Da,Ct,Ct];exact⟨fun k hk=>by rw[Uh k (Au.1 hk)];decide,fun k hk=>by rw[bV k (Au.1 hk)];decide⟩
  apply hK;clear hK K;refine Tz ?_;refine Rx ?_
  exact⟨by rw[eW];rfl,by omega,mk⟩)
 exact⟨H',hS,hq⟩
structure dp (H H':aA) (lo hi:Nat) (a b c d e f:AV) (s:Sc):Prop where
 next:H.next<=H'.next
 CI:∀j,j<H.next->¬(lo<=j/\j<hi)->H'.get j=H.get j
 mem:fS H' lo hi a b c d e f s
theorem aQx {g r0 r1:Int} {tv rv uv pv:AV} {k:Int} {n:Nat}
 {H:aA} {p lo hi:Nat} {a b c d e f:AV} {o:Bool} {s:Sc} (hp:H.get p=some (.cells [a,b,c,d,e,f] o)) (hm:fS H lo hi a b c d e f s) (mN:p<H.next) (Lq:hi<=H.next) (hn:n<s.ta.length):
 ∃H',Sg 80 [.agg (yC g r0 r1 tv rv uv),.ref p 0,.agg (oC k n pv)] H (.ret (.int .i64 (if s.ta[n] then 0 else 4))) H'/\dp H H' lo hi a b c d e f (if s.ta[n] then {s with ta:=s.ta.set n false} else s):=by
 obtain⟨id,rfl,i1,i2,hg,nX⟩:=hm.ta hn;rw[nH] at hg;have sH:(s.ta.map AV.bool).getD n aC=.bool s.ta[n]:=by simp[hn]
 have DQ:n+1<=s.ta.length:=hn;generalize s.ta[n]=tb at *
 obtain⟨_,H',⟨rfl,hq⟩,hS⟩:=cY (R:=fun o H'=>o=.ret (.int .i64 (if tb then 0 else 4))/\dp H H' lo hi a b c d (.sl id 1 0 s.ta.length s.ta.length) f (if tb then {s with ta:=s.ta.set n false} else s)) fit bHp (args:=[.agg (yC g r0 r1 tv rv uv),.ref p 0,.agg (oC k n pv)]) (H:=H) (Ak rfl) (by
  unfold W80;dsimp only;refine bQ ?_;simp only[↓zP,zJ,seval,yC,oC];refine bR ?_;generalize hX:(H.alloc _).alloc _=HA;have go:HA.get (H.next+1)=some (.cells [.int .i64 k,.int .i64 n,pv] false):=by subst hX;rw[aA.aG,if_pos (by simp only[aA.aS])]
  have gn:HA.next=H.next+2:=by subst hX;simp only[aA.aS]
  have gk:∀j,j<H.next->HA.get j=H.get j:=fun j hj=>by subst hX;rw[aA.aG,if_neg Zag,aA.aG,if_neg (by omega)]
  clear hX;have gp:=(gk p mN).trans hp;have gi:=(gk id (by omega)).trans hg;refine bY fun f0 dQ=>?_;have v1:f0 1=.ref p 0:=by subst dQ;exact rfl
  have v5:f0 5=.ref (H.next+1) 0:=by subst dQ;simp only[zB,seval]
  have v6:f0 6=.int .i64 0:=by subst dQ;simp only[zB,seval]
  clear dQ;refine aJ fun K hK=>?_;refine bQ ?_;refine Dz ?_;simp only[↓zP,zJ,seval,zD,v1,v5,gp,go,aB,hn,gi,DQ,sH,Af];refine bR ?_;cases tb
  . refine Ty ?_;refine Rx ?_
    exact⟨rfl,by omega,fun j hj _=>gk j hj,by
     obtain⟨n1,n2,n3,n4,n5,r1,r2,r3,r4,r5,r6,h⟩:=hm
     exact⟨n1,n2,n3,n4,n5,r1.dH (Ab _) (Ab _) fun j g1 g2=>gk j (by omega),r2.dH (Ab _) (Ab _) fun j g1 g2=>gk j (by omega),r3.dH (Ab _) (Ab _) fun j g1 g2=>gk j (by omega),r4.dH (Ab _) (Ab _) fun j g1 g2=>gk j (by omega),r5.dH (Ab _) (Ab _) fun j g1 g2=>gk j (by omega),r6.dH (Ab _) (Ab _) fun j g1 g2=>gk j (by omega),h⟩⟩
  refine Ty ?_;apply hK;clear hK K;refine bQ ?_;refine Dz ?_;simp only[↓zP,zJ,seval,zD,v1,v5,gp,go,aB,hn,gi,DQ,Af];refine bR ?_;refine Tz ?_;refine Rx ?_
  exact⟨rfl,by rw[aA.bC];omega,fun j hj hx=>by rw[aA.aD,if_neg (by omega)];exact gk j hj,nX _ false ZaO fun j h1 h2 h3=>by rw[aA.aD,if_neg (by omega)];exact gk j (by omega)⟩)
 exact⟨H',hS,hq⟩
theorem fS.dH {H H':aA} {lo hi:Nat} {a b c d e f:AV} {s:Sc} (hm:fS H lo hi a b c d e f s) (hk:∀j,j<hi->H'.get j=H.get j):fS H' lo hi a b c d e f s:=by obtain⟨n1,n2,n3,n4,n5,r1,r2,r3,r4,r5,r6,h⟩:=hm;exact⟨n1,n2,n3,n4,n5,r1.dH (Ab _) (Ab _) fun j g1 g2=>hk j (by omega),r2.dH (Ab _) (Ab _) fun j g1 g2=>hk j (by omega),r3.dH (Ab _) (Ab _) fun j g1 g2=>hk j (by omega),r4.dH (Ab _) (Ab _) fun j g1 g2=>hk j (by omega),r5.dH (Ab _) (Ab _) fun j g1 g2=>hk j (by omega),r6.dH (Ab _) (Ab _) fun j g1 g2=>hk j (by omega),h⟩
def PB (s:Sc) (r:List Int) (n:Nat):Bool:=s.ta.getD n false||(!uC s.st (r.getD 0 0)|| !uC s.st (r.getD 1 0))
theorem aTv {g r0 r1:Int} {rs:List (List Int)} {tv rv uv pv:AV} {k:Int} {n:Nat} (lR:fI rv 8 (bD rs)) (hr:∀r∈rs,r.length=8)
 {H:aA} {p lo hi:Nat} {a b c d e f:AV} {o:Bool} {s:Sc} (hp:H.get p=some (.cells [a,b,c,d,e,f] o)) (hm:fS H lo hi a b c d e f s) (mN:p<H.next) (Lq:hi<=H.next) (hn:n<s.ta.length) (wx:n<rs.length)
 (hl:s.st.length<2^30) (ha:0<=rs[n].getD 0 0/\rs[n].getD 0 0<=s.st.length) (hb:0<=rs[n].getD 1 0/\rs[n].getD 1 0<=s.st.length):
 ∃H',Sg 79 [.agg (yC g r0 r1 tv rv uv),.ref p 0,.agg (oC k n pv)] H (.ret (.int .i64 (if PB s rs[n] n then 4 else 0))) H'/\dp H H' lo hi a b c d e f (if PB s rs[n] n then s else {s with ta:=s.ta.set n true}):=by
 have MO:=hm;have FJ:rv=.bB 0 8 (bD rs):=lR.bB (i:=n) (by rw[aO];exact wx);subst FJ;have WK:=cD wx;have h8:=hr _ (Ac wx);generalize jz:rs[n]=r at *;obtain⟨id,rfl,i1,i2,hg,nX⟩:=hm.ta hn;rw[nH] at hg;have sH:(s.ta.map AV.bool).getD n aC=.bool s.ta[n]:=by simp[hn]
 have CX:PB s r n=(s.ta[n]||(!uC s.st (r.getD 0 0)|| !uC s.st (r.getD 1 0))):=by unfold PB;simp[hn]
 have DQ:n+1<=s.ta.length:=hn;rw[CX];clear CX;generalize s.ta[n]=tb at *;have pM:(iC r).length=8:=by rw[cC,h8]
 have a0:=dV (l:=r) (i:=0) (by omega);have a1:=dV (l:=r) (i:=1) (by omega);generalize r.getD 0 0=x at *;generalize r.getD 1 0=z at *;generalize hB:(tb||(!uC s.st x|| !uC s.st z))=B at *
 obtain⟨_,H',⟨rfl,hq⟩,hS⟩:=cY (R:=fun o H'=>o=.ret (.int .i64 (if B then 4 else 0))/\dp H H' lo hi a b c d (.sl id 1 0 s.ta.length s.ta.length) f (if B then s else {s with ta:=s.ta.set n true})) fit bCj (args:=[.agg (yC g r0 r1 tv (.bB 0 8 (bD rs)) uv),.ref p 0,.agg (oC k n pv)]) (H:=H) (Ak rfl) (by
  unfold W79;dsimp only;refine bQ ?_;simp only[↓zP,zJ,seval,yC,oC];refine bR ?_;generalize hX:(H.alloc _).alloc _=HA;have gy:HA.get H.next=some (.cells [.int .i64 g,.int .i64 r0,.int .i64 r1,tv,.bB 0 8 (bD rs),uv] false):=by subst hX;rw[aA.aG,if_neg Zag,aA.aG,if_pos rfl]
  have go:HA.get (H.next+1)=some (.cells [.int .i64 k,.int .i64 n,pv] false):=by subst hX;rw[aA.aG,if_pos (by simp only[aA.aS])]
  have gn:HA.next=H.next+2:=by subst hX;simp only[aA.aS]
  have gk:∀j,j<H.next->HA.get j=H.get j:=fun j hj=>by subst hX;rw[aA.aG,if_neg Zag,aA.aG,if_neg (by omega)]
  clear hX;refine bY fun f0 dQ=>?_;have v1:f0 1=.ref p 0:=by subst dQ;exact rfl
  have v3:f0 3=.ref H.next 0:=by subst dQ;simp only[zB,seval]
  have v5:f0 5=.ref (H.next+1) 0:=by subst dQ;simp only[zB,seval]
  have v6:f0 6=.int .i64 0:=by subst dQ;simp only[zB,seval]
  clear dQ;refine bQ ?_;simp only[↓zP,zJ,seval,v3,v5,gy,go,aB,aO,wx,WK,oL pM];refine bR ?_;generalize hX:(HA.alloc _).set HA.next _=HB;have b8:HB.get HA.next=some (.cells (iC r) false):=by subst hX;rw[aA.aD,if_pos rfl]
  have bn:HB.next=H.next+3:=by subst hX;simp only[aA.bC,aA.aS];omega
  have bk:∀j,j<HA.next->HB.get j=HA.get j:=fun j hj=>by subst hX;rw[aA.aD,if_neg (by omega),aA.aG,if_neg (by omega)]
  clear hX;have bo:=(bk _ (by omega)).trans go;have bH:∀j,j<H.next->HB.get j=H.get j:=fun j hj=>(bk j (by omega)).trans (gk j hj);have gp:=(bH p mN).trans hp;have gi:=(bH id (by omega)).trans hg;have mB:=MO.dH (H':=HB) fun j hj=>bH j (by omega);have S1:=xF gp mB ha.1 ha.2 hl;have S2:=xF gp mB hb.1 hb.2 hl;generalize HA.next=r8 at *;generalize uC s.st x=bx at *;generalize uC s.st z=bz at *;refine bY fun f0 dQ=>?_;have v1:=Ks dQ v1;have v5:=Ks dQ v5;have v6:=Ks dQ v6;have v7:f0 7=.ref r8 0:=by subst dQ;simp only[zB,seval]
  clear dQ;refine aJ fun K hK=>?_;refine aJ fun K2 bW=>?_;refine Dz ?_
  have key:∀f:dE,f 1=.ref p 0->f 5=.ref (H.next+1) 0->f 6=.int .i64 0->f 35=.bool B->K2 f [] HB:=by
   intro f v1 v5 v6 v35;apply bW;clear bW K2;cases B
   . simp only[↓zP,zG,seval,v35];apply hK;clear hK K;refine bQ ?_;refine Dz ?_;simp only[↓zP,zJ,seval,zD,v1,v5,gp,bo,aB,hn,gi,DQ,Af];refine bR ?_;refine Tz ?_;refine Rx ?_;exact⟨rfl,by rw[aA.bC];omega,fun j hj hx=>by rw[aA.aD,if_neg (by omega)];exact bH j hj,nX _ true ZaO fun j h1 h2 h3=>by rw[aA.aD,if_neg (by omega)];exact bH j (by omega)⟩
   simp only[↓zP,zG,seval,v35];refine Rx ?_;exact⟨rfl,by omega,fun j hj _=>bH j hj,mB⟩
  clear bW hK;cases tb
  . simp only[↓zP,zJ,seval,zD,v1,v5,v7,gp,bo,b8,aB,hn,gi,DQ,sH,Af,pM,a0];refine fH (S1) ?_;cases bx
    . exact Zaq
    simp only[↓zP,zJ,seval,zD,v1,v7,b8,pM,a1];refine fH (S2) ?_;exact Zaq
  simp only[↓zP,zJ,seval,zD,v1,v5,gp,bo,aB,hn,gi,DQ,sH,Af]
  exact key _ (by simp only[zB,seval];exact v1) (by simp only[zB,seval];exact v5) (by simp only[zB,seval];exact v6) (by simp only[zB,seval];rw[<-hB];rfl))
 exact⟨H',hS,hq⟩
def Mv (s:Sc) (r:List Int) (n:Nat):Bool:=s.ac.getD n false|| !uC s.st (r.getD 0 0)
theorem aQt {g r0 r1:Int} {rs:List (List Int)} {tv rv uv pv:AV} {k:Int} {n:Nat} (mS:fI uv 10 (bD rs)) (hr:∀r∈rs,r.length=10)
 {H:aA} {p lo hi:Nat} {a b c d e f:AV} {o:Bool} {s:Sc} (hp:H.get p=some (.cells [a,b,c,d,e,f] o)) (hm:fS H lo hi a b c d e f s) (mN:p<H.next) (Lq:hi<=H.next) (hn:n<s.ac.length) (wx:n<rs.length)
 (hl:s.st.length<2^30) (ha:0<=rs[n].getD 0 0/\rs[n].getD 0 0<=s.st.length):
 ∃H',Sg 81 [.agg (yC g r0 r1 tv rv uv),.ref p 0,.agg (oC k n pv)] H (.ret (.int .i64 (if Mv s rs[n] n then 4 else 0))) H'/\dp H H' lo hi a b c d e f (if Mv s rs[n] n then s else {s with ac:=s.ac.set n true}):=by
 have MO:=hm;have FJ:uv=.bB 0 10 (bD rs):=mS.bB (i:=n) (by rw[aO];exact wx);subst FJ;have WK:=cD wx;have h10:=hr _ (Ac wx);generalize jz:rs[n]=r at *;obtain⟨id,rfl,i1,i2,hg,nX⟩:=hm.ac hn;rw[nH] at hg;have sH:(s.ac.map AV.bool).getD n aC=.bool s.ac[n]:=by simp[hn]
 have CX:Mv s r n=(s.ac[n]|| !uC s.st (r.getD 0 0)):=by unfold Mv;simp[hn]
 have DQ:n+1<=s.ac.length:=hn;rw[CX];clear CX;generalize s.ac[n]=tb at *;have XY:(iC r).length=10:=by rw[cC,h10]
 have a0:=dV (l:=r) (i:=0) (by omega);generalize r.getD 0 0=x at *;generalize hB:(tb|| !uC s.st x)=B at *
 obtain⟨_,H',⟨rfl,hq⟩,hS⟩:=cY (R:=fun o H'=>o=.ret (.int .i64 (if B then 4 else 0))/\dp H H' lo hi a b c d e (.sl id 1 0 s.ac.length s.ac.length) (if B then s else {s with ac:=s.ac.set n true})) fit bHq (args:=[.agg (yC g r0 r1 tv rv (.bB 0 10 (bD rs))),.ref p 0,.agg (oC k n pv)]) (H:=H) (Ak rfl) (by
  unfold W81;dsimp only;refine bQ ?_;simp only[↓zP,zJ,seval,yC,oC];refine bR ?_;generalize hX:(H.alloc _).alloc _=HA;have gy:HA.get H.next=some (.cells [.int .i64 g,.int .i64 r0,.int .i64 r1,tv,rv,.bB 0 10 (bD rs)] false):=by subst hX;rw[aA.aG,if_neg Zag,aA.aG,if_pos rfl]
  have go:HA.get (H.next+1)=some (.cells [.int .i64 k,.int .i64 n,pv] false):=by subst hX;rw[aA.aG,if_pos (by simp only[aA.aS])]
  have gn:HA.next=H.next+2:=by subst hX;simp only[aA.aS]
  have gk:∀j,j<H.next->HA.get j=H.get j:=fun j hj=>by subst hX;rw[aA.aG,if_neg Zag,aA.aG,if_neg (by omega)]
  clear hX;refine bY fun f0 dQ=>?_;have v1:f0 1=.ref p 0:=by subst dQ;exact rfl
  have v3:f0 3=.ref H.next 0:=by subst dQ;simp only[zB,seval]
  have v5:f0 5=.ref (H.next+1) 0:=by subst dQ;simp only[zB,seval]
  have v6:f0 6=.int .i64 0:=by subst dQ;simp only[zB,seval]
  clear dQ;have gp:=(gk p mN).trans hp;have gi:=(gk id (by omega)).trans hg;have mB:=MO.dH (H':=HA) fun j hj=>gk j (by omega);have S1:=xF gp mB ha.1 ha.2 hl;generalize uC s.st x=bx at *;refine aJ fun K hK=>?_;refine aJ fun K2 bW=>?_;refine Dz ?_
  have key:∀f:dE,f 1=.ref p 0->f 5=.ref (H.next+1) 0->f 6=.int .i64 0->f 26=.bool B->K2 f [] HA:=by
   intro f v1 v5 v6 v26;apply bW;clear bW K2;cases B
   . simp only[↓zP,zG,seval,v26];apply hK;clear hK K;refine bQ ?_;refine Dz ?_;simp only[↓zP,zJ,seval,zD,v1,v5,gp,go,aB,hn,gi,DQ,Af];refine bR ?_;refine Tz ?_;refine Rx ?_;exact⟨rfl,by rw[aA.bC];omega,fun j hj hx=>by rw[aA.aD,if_neg (by omega)];exact gk j hj,nX _ true ZaO fun j h1 h2 h3=>by rw[aA.aD,if_neg (by omega)];exact gk j (by omega)⟩
   simp only[↓zP,zG,seval,v26];exact ZaP
  clear bW hK;cases tb
  . simp only[↓zP,zJ,seval,zD,v1,v3,v5,gp,go,gy,aB,hn,wx,WK,aO,gi,DQ,sH,Af,XY,a0];refine fH (S1) ?_;exact Zaq
  simp only[↓zP,zJ,seval,zD,v1,v5,gp,go,aB,hn,gi,DQ,sH,Af]
  exact key _ (by simp only[zB,seval];exact v1) (by simp only[zB,seval];exact v5) (by simp only[zB,seval];exact v6) (by simp only[zB,seval];rw[<-hB];rfl))
 exact⟨H',hS,hq⟩
theorem aEl {g r0 r1:Int} {tv rv uv pv:AV} {k:Int} {n:Nat}
 {H:aA} {p lo hi:Nat} {a b c d e f:AV} {o:Bool} {s:Sc} (hp:H.get p=some (.cells [a,b,c,d,e,f] o)) (hm:fS H lo hi a b c d e f s) (mN:p<H.next) (Lq:hi<=H.next) (hn:n<s.ac.length):
 ∃H',Sg 82 [.agg (yC g r0 r1 tv rv uv),.ref p 0,.agg (oC k n pv)] H (.ret (.int .i64 (if s.ac[n] then 0 else 4))) H'/\dp H H' lo hi a b c d e f (if s.ac[n] then {s with ac:=s.ac.set n false} else s):=by
 obtain⟨id,rfl,i1,i2,hg,nX⟩:=hm.ac hn;rw[nH] at hg;have sH:(s.ac.map AV.bool).getD n aC=.bool s.ac[n]:=by simp[hn]
 have DQ:n+1<=s.ac.length:=hn;generalize s.ac[n]=tb at *
 obtain⟨_,H',⟨rfl,hq⟩,hS⟩:=cY (R:=fun o H'=>o=.ret (.int .i64 (if tb then 0 else 4))/\dp H H' lo hi a b c d e (.sl id 1 0 s.ac.length s.ac.length) (if tb then {s with ac:=s.ac.set n false} else s)) fit bHr (args:=[.agg (yC g r0 r1 tv rv uv),.ref p 0,.agg (oC k n pv)]) (H:=H) (Ak rfl) (by
  unfold W82;dsimp only;refine bQ ?_;simp only[↓zP,zJ,seval,yC,oC];refine bR ?_;generalize hX:(H.alloc _).alloc _=HA;have go:HA.get (H.next+1)=some (.cells [.int .i64 k,.int .i64 n,pv] false):=by subst hX;rw[aA.aG,if_pos (by simp only[aA.aS])]
  have gn:HA.next=H.next+2:=by subst hX;simp only[aA.aS]
  have gk:∀j,j<H.next->HA.get j=H.get j:=fun j hj=>by subst hX;rw[aA.aG,if_neg Zag,aA.aG,if_neg (by omega)]
  clear hX;have gp:=(gk p mN).trans hp;have gi:=(gk id (by omega)).trans hg;refine bY fun f0 dQ=>?_;have v1:f0 1=.ref p 0:=by subst dQ;exact rfl
  have v5:f0 5=.ref (H.next+1) 0:=by subst dQ;simp only[zB,seval]
  have v6:f0 6=.int .i64 0:=by subst dQ;simp only[zB,seval]
  clear dQ;refine aJ fun K hK=>?_;refine bQ ?_;refine Dz ?_;simp only[↓zP,zJ,seval,zD,v1,v5,gp,go,aB,hn,gi,DQ,sH,Af];refine bR ?_;cases tb
  . refine Ty ?_;refine Rx ?_
    exact⟨rfl,by omega,fun j hj _=>gk j hj,by
     obtain⟨n1,n2,n3,n4,n5,r1,r2,r3,r4,r5,r6,h⟩:=hm
     exact⟨n1,n2,n3,n4,n5,r1.dH (Ab _) (Ab _) fun j g1 g2=>gk j (by omega),r2.dH (Ab _) (Ab _) fun j g1 g2=>gk j (by omega),r3.dH (Ab _) (Ab _) fun j g1 g2=>gk j (by omega),r4.dH (Ab _) (Ab _) fun j g1 g2=>gk j (by omega),r5.dH (Ab _) (Ab _) fun j g1 g2=>gk j (by omega),r6.dH (Ab _) (Ab _) fun j g1 g2=>gk j (by omega),h⟩⟩
  refine Ty ?_;apply hK;clear hK K;refine bQ ?_;refine Dz ?_;simp only[↓zP,zJ,seval,zD,v1,v5,gp,go,aB,hn,gi,DQ,Af];refine bR ?_;refine Tz ?_;refine Rx ?_
  exact⟨rfl,by rw[aA.bC];omega,fun j hj hx=>by rw[aA.aD,if_neg (by omega)];exact gk j hj,nX _ false ZaO fun j h1 h2 h3=>by rw[aA.aD,if_neg (by omega)];exact gk j (by omega)⟩)
 exact⟨H',hS,hq⟩
theorem Nb {sz:Nat}:∀{aY:List (List AV)} {k:Nat} {x:List AV},(∀e∈aY,e.length=sz)->k<aY.length->x.length=sz->aY.flatten.take (k*sz)++x++aY.flatten.drop (k*sz+sz)=(aY.set k x).flatten
 |[],_,_,_,h,_=>absurd h (An _)
 |e::aY,0,x,hl,_,hx=>by have he:=hl e Ar;simp[<-he]
 |e::aY,k+1,x,hl,hk,hx=>by have he:=hl e Ar;have ih:=Nb (aY:=aY) (k:=k) (x:=x) (fun y hy=>hl y (Aw _ hy)) (by simpa using hk) hx;rw[List.set_cons_succ,Bp,Bp,<-ih,show(k+1)*sz=e.length+k*sz by rw[Ea,he];omega,Br,List.take_length_add_append,Iy];simp only[Eb]
theorem gN {sz:Nat}:∀{aY:List (List AV)},(∀e∈aY,e.length=sz)->aY.flatten.length=aY.length*sz
 |[],_=>by simp
 |e::aY,h=>by rw[Bp,Ba,gN fun y hy=>h y (Aw _ hy),h e Ar,Aq,Ea,Fo]
theorem lF {l:List (List Int)} {sz:Nat} (h:∀r∈l,r.length=sz):∀e∈bD l,e.length=sz:=fun e he=>by obtain⟨r,hr,rfl⟩:=Bj.1 he;rw[cC,h r hr]
theorem xB {l:List (List Int)} {sz k:Nat} {x:List Int} (h:∀r∈l,r.length=sz) (hk:k<l.length) (hx:x.length=sz):(bD l).flatten.take (k*sz)++iC x++(bD l).flatten.drop (k*sz+sz)=(bD (l.set k x)).flatten:=by rw[Nb (lF h) (by rw[aO];exact hk) (by rw[cC,hx])];unfold bD;rw[Hz]
theorem jU (l:List Bool):∀e∈bE l,e.length=1:=fun e he=>by obtain⟨r,hr,rfl⟩:=Bj.1 he;rfl
theorem sQ {l:List Bool} {k:Nat} {x:Bool} (hk:k<l.length):(bE l).flatten.take k++[.bool x]++(bE l).flatten.drop (k+1)=(bE (l.set k x)).flatten:=by have :=Nb (x:=[.bool x]) (jU l) (by rw[bT];exact hk) rfl;simp only[Ed] at this;rw[this];unfold bE;rw[Hz]
theorem Vt {l:List Bool} {m:Nat} (h:m<l.length):uC l ((m+1:Nat):Int)=l[m]:=by unfold uC;rw[Bl.2 (by omega),show(((m+1:Nat):Int) -1).toNat=m by omega];simp[h]
def yB (s:Sc) (m:Nat) (x:List Int):Sc:={s with st:=s.st.set m true,ps:=s.ps.set m x,vs:=s.vs.set m [0,0,0],ws:=s.ws.set m [0,0,0]}
theorem zu {g r0 r1:Int} {tv rv uv pv:AV} {k:Int} {m:Nat} {qs:List (List Int)} (uR:fI pv 7 (bD qs)) (hq:∀q∈qs,q.length=7) (Xe:0<qs.length) (Ls:qs.length<2^30)
 {H:aA} {p lo hi:Nat} {a b c d e f:AV} {o:Bool} {s:Sc} (hp:H.get p=some (.cells [a,b,c,d,e,f] o)) (hm:fS H lo hi a b c d e f s) (mN:p<H.next) (Lq:hi<=H.next) (hn:m<s.st.length)
 (hl:s.st.length<2^30) (h1:s.ps.length=s.st.length) (h2:s.vs.length=s.st.length) (h3:s.ws.length=s.st.length) (xe:∀r∈s.ps,r.length=7) (Pn:∀r∈s.vs,r.length=3) (MP:∀r∈s.ws,r.length=3):
 ∃H',Sg 75 [.agg (yC g r0 r1 tv rv uv),.ref p 0,.agg (oC k ((m+1:Nat):Int) pv)] H (.ret (.int .i64 (if s.st[m] then 4 else 0))) H'/\dp H H' lo hi a b c d e f (if s.st[m] then s else yB s m (qs.getD (qs.length -1) [])):=by
 have MO:=hm;obtain⟨n1,n2,n3,n4,n5,r1',r2',r3',r4',r5',r6',o1,o2,o3,o4,o5,o6⟩:=hm;obtain⟨d1,e1,l1,u1,g1⟩:=r1'.at (i:=m) (by rw[bT];exact hn);obtain⟨d2,e2,l2,u2,g2⟩:=r2'.at (i:=m) (by rw[aO];omega);obtain⟨d3,e3,l3,u3,g3⟩:=r3'.at (i:=m) (by rw[aO];omega);obtain⟨d4,e4,l4,u4,g4⟩:=r4'.at (i:=m) (by rw[aO];omega);have x1:m+1<=(bE s.st).flatten.length:=by rw[gN (jU _),bT];omega
 have x2:m*7+7<=(bD s.ps).flatten.length:=by rw[gN (lF xe),aO];omega
 have x3:m*3+3<=(bD s.vs).flatten.length:=by rw[gN (lF Pn),aO];omega
 have x4:m*3+3<=(bD s.ws).flatten.length:=by rw[gN (lF MP),aO];omega
 have xG:m<(bE s.st).length:=by rw[bT];exact hn
 have FB:m<(bD s.ps).length:=by rw[aO];omega
 have DP:m<(bD s.vs).length:=by rw[aO];omega
 have XX:m<(bD s.ws).length:=by rw[aO];omega
 have aRz:pv=.bB 0 7 (bD qs):=uR.bB (i:=0) (by rw[aO];exact Xe);subst aRz;have hj:qs.length -1<qs.length:=by omega
 have Zj:=cD hj;have aEw:(iC qs[qs.length -1]).length=7:=by rw[cC,hq _ (Ac hj)]
 have hqd:qs.getD (qs.length -1) []=qs[qs.length -1]:=by simp[hj]
 rw[hqd];have hw:IntKind.i64.wrap ((qs.length:Int) -1)=((qs.length -1:Nat):Int):=wI (by omega);have Zs:IntKind.i64.wrap (((m+1:Nat):Int) -1)=(m:Int):=wI (by omega);have aRg:=sQ (x:=true) hn;have Pa:=xB (x:=qs[qs.length -1]) xe (k:=m) (by omega) (hq _ (Ac hj));have aUk:=xB (x:=[0,0,0]) Pn (k:=m) (by omega) rfl;rw[show iC [0,0,0]=[AV.int .i64 0,.int .i64 0,.int .i64 0] from rfl] at aUk;have aUl:=xB (x:=[0,0,0]) MP (k:=m) (by omega) rfl;rw[show iC [0,0,0]=[AV.int .i64 0,.int .i64 0,.int .i64 0] from rfl] at aUl;have fQ:=Vt hn;generalize s.st[m]=tb at *;generalize hx:qs[qs.length -1]=x at *
 obtain⟨_,H',⟨rfl,hq⟩,hS⟩:=cY (R:=fun o H'=>o=.ret (.int .i64 (if tb then 4 else 0))/\dp H H' lo hi a b c d e f (if tb then s else yB s m x)) fit bCg (args:=[.agg (yC g r0 r1 tv rv uv),.ref p 0,.agg (oC k ((m+1:Nat):Int) (.bB 0 7 (bD qs)))]) (H:=H) (Ak rfl) (by
  unfold W75;dsimp only;refine bQ ?_;simp only[↓zP,zJ,seval,yC,oC];refine bR ?_;generalize hX:(H.alloc _).alloc _=HA;have go:HA.get (H.next+1)=some (.cells [.int .i64 k,.int .i64 ((m+1:Nat):Int),.bB 0 7 (bD qs)] false):=by subst hX;rw[aA.aG,if_pos (by simp only[aA.aS])]
  have gn:HA.next=H.next+2:=by subst hX;simp only[aA.aS]
  have gk:∀j,j<H.next->HA.get j=H.get j:=fun j hj=>by subst hX;rw[aA.aG,if_neg Zag,aA.aG,if_neg (by omega)]
  clear hX;refine bY fun f0 dQ=>?_;have v1:f0 1=.ref p 0:=by subst dQ;exact rfl
  have v5:f0 5=.ref (H.next+1) 0:=by subst dQ;simp only[zB,seval]
  have v6:f0 6=.int .i64 0:=by subst dQ;simp only[zB,seval]
  clear dQ;have gp:=(gk p mN).trans hp;have mB:=MO.dH (H':=HA) fun j hj=>gk j (by omega);have S1:=xF gp mB (n:=((m+1:Nat):Int)) (by omega) (by omega) hl;rw[fQ] at S1;have y1:=(gk d1 (by omega)).trans g1;have y2:=(gk d2 (by omega)).trans g2;have y3:=(gk d3 (by omega)).trans g3;have y4:=(gk d4 (by omega)).trans g4;subst e1 e2 e3 e4;refine bQ ?_;simp only[↓zP,zJ,seval,v1,v5,go];refine bZ (S1) ?_;cases tb;rotate_left
  . refine Tz ?_;exact ZaP
  refine Tz ?_;refine bR ?_;refine bY fun f1 mM=>?_;have w1:=Ks mM v1;have w5:=Ks mM v5;have w6:=Ks mM v6;clear mM v1 v5 v6;refine bQ ?_;simp only[↓zP,zJ,seval,w5,go,Zs];refine bR ?_;have lq:(bD qs).length=qs.length:=aO qs;have e21:d2≠d1:=by omega
  have e31:d3≠d1:=by omega
  have e32:d3≠d2:=by omega
  have e41:d4≠d1:=by omega
  have e42:d4≠d2:=by omega
  have e43:d4≠d3:=by omega
  refine bQ ?_;refine Dz ?_;simp only[↓zP,zJ,seval,zD,w1,w5,gp,go,aB,hw,lq,hj,Zj,oL aEw,xG,FB,DP,XX,y1,y2,y3,y4,x1,x2,x3,x4,e21,e31,e32,e41,e42,e43];refine bR ?_;refine Tz ?_;refine Rx ?_;rw[aRg,Pa,aUk,aUl]
  have t4:∀{j:Nat} {X1 X2 X3 X4:fC},j≠d1->j≠d2->j≠d3->j≠d4->((((HA.set d1 X1).set d2 X2).set d3 X3).set d4 X4).get j=HA.get j:=fun h1 h2 h3 h4=>by rw[aA.aD,if_neg h4,aA.aD,if_neg h3,aA.aD,if_neg h2,aA.aD,if_neg h1]
  refine⟨rfl,by simp only[aA.bC];omega,fun j hj hx=>(t4 (by omega) (by omega) (by omega) (by omega)).trans (gk j hj),?_⟩;have kk:∀j,j<hi->j≠d1->j≠d2->j≠d3->j≠d4->∀{X1 X2 X3 X4:fC},((((HA.set d1 X1).set d2 X2).set d3 X3).set d4 X4).get j=H.get j:=fun j hj h1 h2 h3 h4=>(t4 h1 h2 h3 h4).trans (gk j (by omega));refine⟨n1,n2,n3,n4,n5,r1'.put rfl ?_ ?_ ⟨l1,u1⟩,r2'.put rfl ?_ ?_ ⟨l2,u2⟩,r3'.put rfl ?_ ?_ ⟨l3,u3⟩,r4'.put rfl ?_ ?_ ⟨l4,u4⟩,r5'.dH (Ab _) (Ab _) fun j h1 h2=>kk j (by omega) (by omega) (by omega) (by omega) (by omega),r6'.dH (Ab _) (Ab _) fun j h1 h2=>kk j (by omega) (by omega) (by omega) (by omega) (by omega),o1,o2,o3,o4,o5,o6⟩
  . simp only[bT,yB,By]
  . rw[aA.aD,if_neg e41.symm,aA.aD,if_neg e31.symm,aA.aD,if_neg e21.symm,aA.aD,if_pos rfl];rfl
  . simp only[aO,yB,By]
  . rw[aA.aD,if_neg e42.symm,aA.aD,if_neg e32.symm,aA.aD,if_pos rfl];rfl
  . simp only[aO,yB,By]
  . rw[aA.aD,if_neg e43.symm,aA.aD,if_pos rfl];rfl
  . simp only[aO,yB,By]
  rw[aA.aD,if_pos rfl];rfl)
 exact⟨H',hS,hq⟩
theorem ZU {sz:Nat}:∀{aY:List (List AV)} {k:Nat},(∀e∈aY,e.length=sz)->k<aY.length->(aY.flatten.drop (k*sz)).take sz=aY.getD k []
 |[],_,_,h=>absurd h (An _)
 |e::aY,0,hl,_=>by have he:=hl e Ar;simp[<-he]
 |e::aY,k+1,hl,hk=>by have he:=hl e Ar;have ih:=ZU (aY:=aY) (k:=k) (fun y hy=>hl y (Aw _ hy)) (by simpa using hk);rw[Bp,show(k+1)*sz=e.length+k*sz by rw[Ea,he];omega,Iy,ih];rfl
def CN (s:Sc) (m:Nat) (x:List Int):Sc:={s with st:=s.st.set m false,ps:=s.ps.set m x}
def ll (b1 b2 b3 b4:Bool):Int:=if b1 then(if b2 then 7 else if b3 then(if b4 then 4 else 0) else 1) else 4
def Pu (s:Sc) (ts:List Th) (rs us:List (List Int)) (q:List Int) (m:Nat):Int:=ll (s.st.getD m false) ((ts.map (·.kind)).getD m 0 != 2) (decide (q=s.ps.getD m [])) (mO s rs us ((m+1:Nat):Int))
theorem l7 {g r0 r1:Int} {ts:List Th} {rs us:List (List Int)} {tv rv uv pv:AV} {k:Int} {m:Nat} {qs:List (List Int)} (mR:fI tv 14 (nG ts)) (lR:fI rv 8 (bD rs)) (mS:fI uv 10 (bD us)) (ht:∀t∈ts,t.OK) (hr:∀r∈rs,r.length=8) (hu:∀p∈us,p.length=10)
 (uR:fI pv 7 (bD qs)) (hq:∀q∈qs,q.length=7) (Xe:0<qs.length) (Ls:qs.length<2^30)
 {H:aA} {p lo hi:Nat} {a b c d e f:AV} {o:Bool} {s:Sc} (hp:H.get p=some (.cells [a,b,c,d,e,f] o)) (hm:fS H lo hi a b c d e f s) (mN:p<H.next) (Lq:hi<=H.next) (hn:m<s.st.length)
 (hl:s.st.length<2^30) (h0:ts.length=s.st.length) (h1:s.ps.length=s.st.length) (xe:∀r∈s.ps,r.length=7) (hta:s.ta.length=rs.length) (hac:s.ac.length=us.length) (FJ:rs.length<2^30) (ph:us.length<2^30):
 ∃H',Sg 77 [.agg (yC g r0 r1 tv rv uv),.ref p 0,.agg (oC k ((m+1:Nat):Int) pv)] H (.ret (.int .i64 (Pu s ts rs us (qs.getD 0 []) m))) H'/\
  dp H H' lo hi a b c d e f (if Pu s ts rs us (qs.getD 0 []) m=0 then CN s m ((ts.map (·.store)).getD m []) else s):=by
 have MO:=hm;obtain⟨n1,n2,n3,n4,n5,r1',r2',r3',r4',r5',r6',o1,o2,o3,o4,o5,o6⟩:=hm;obtain⟨d1,e1,l1,u1,g1⟩:=r1'.at (i:=m) (by rw[bT];exact hn);obtain⟨d2,e2,l2,u2,g2⟩:=r2'.at (i:=m) (by rw[aO];omega);have x1:m+1<=(bE s.st).flatten.length:=by rw[gN (jU _),bT];omega
 have x2:m*7+7<=(bD s.ps).flatten.length:=by rw[gN (lF xe),aO];omega
 have xG:m<(bE s.st).length:=by rw[bT];exact hn
 have FB:m<(bD s.ps).length:=by rw[aO];omega
 have WL:m<s.ps.length:=by omega
 have gD:m<ts.length:=by omega
 have aRz:pv=.bB 0 7 (bD qs):=uR.bB (i:=0) (by rw[aO];exact Xe);subst aRz;have sJ:tv=.bB 0 14 (nG ts):=mR.bB (i:=m) (by rw[dL];exact gD);subst sJ;have Zj:=cD Xe;have aEw:(iC qs[0]).length=7:=by rw[cC,hq _ (Ac Xe)]
 have hqd:qs.getD 0 []=qs[0]:=by simp[Xe]
 have vJ:=oS gD;have rO:=ht _ (Ac gD);have Ph:=Th.len rO;have hk0:ts[m].cs.getD 0 aC=.int .i64 ts[m].kind:=rfl;have hlp:(iC s.ps[m]).length=7:=by rw[cC,xe _ (Ac WL)]
 have qY:((bD s.ps).flatten.drop (m*7)).take 7=iC s.ps[m]:=by rw[ZU (lF xe) FB];exact cD WL
 have Td:cK [.i,.i,.i,.i,.i,.i,.i] (iC qs[0]) (iC s.ps[m])=some (decide (qs[0]=s.ps[m])):=qL (n:=7) (hq _ (Ac Xe)) (xe _ (Ac WL));have k7':ts[m].cs.drop 7=iC ts[m].store:=rfl;have Un:(iC ts[m].store).length=7:=by rw[cC,rO.store]
 have hRE:Pu s ts rs us (qs.getD 0 []) m=ll s.st[m] (ts[m].kind != 2) (decide (qs[0]=s.ps[m])) (mO s rs us ((m+1:Nat):Int)):=by unfold Pu;rw[hqd];simp[hn,gD,WL]
 have hTS:(ts.map (·.store)).getD m []=ts[m].store:=by simp[gD]
 have Zs:IntKind.i64.wrap (((m+1:Nat):Int) -1)=(m:Int):=wI (by omega);have aRg:=sQ (x:=false) hn;have Pa:=xB (x:=ts[m].store) xe (k:=m) WL rO.store;have fQ:=Vt hn;rw[hRE,hTS];clear hRE hTS;generalize s.st[m]=b1 at *;generalize fV:(ts[m].kind != 2)=b2 at *;generalize decide (qs[0]=s.ps[m])=b3 at *;generalize hub:mO s rs us ((m+1:Nat):Int)=b4 at *
 obtain⟨_,H',⟨rfl,hq⟩,hS⟩:=cY (R:=fun o H'=>o=.ret (.int .i64 (ll b1 b2 b3 b4))/\dp H H' lo hi a b c d e f (if ll b1 b2 b3 b4=0 then CN s m ts[m].store else s)) fit bCi (args:=[.agg (yC g r0 r1 (.bB 0 14 (nG ts)) rv uv),.ref p 0,.agg (oC k ((m+1:Nat):Int) (.bB 0 7 (bD qs)))]) (H:=H) (Ak rfl) (by
  unfold W77;dsimp only;refine bQ ?_;simp only[↓zP,zJ,seval,yC,oC];refine bR ?_;generalize hX:(H.alloc _).alloc _=HA;have gy:HA.get H.next=some (.cells [.int .i64 g,.int .i64 r0,.int .i64 r1,.bB 0 14 (nG ts),rv,uv] false):=by subst hX;rw[aA.aG,if_neg Zag,aA.aG,if_pos rfl]
  have go:HA.get (H.next+1)=some (.cells [.int .i64 k,.int .i64 ((m+1:Nat):Int),.bB 0 7 (bD qs)] false):=by subst hX;rw[aA.aG,if_pos (by simp only[aA.aS])]
  have gn:HA.next=H.next+2:=by subst hX;simp only[aA.aS]
  have gk:∀j,j<H.next->HA.get j=H.get j:=fun j hj=>by subst hX;rw[aA.aG,if_neg Zag,aA.aG,if_neg (by omega)]
  clear hX;refine bY fun f0 dQ=>?_;have v1:f0 1=.ref p 0:=by subst dQ;exact rfl
  have v3:f0 3=.ref H.next 0:=by subst dQ;simp only[zB,seval]
  have v5:f0 5=.ref (H.next+1) 0:=by subst dQ;simp only[zB,seval]
  have v6:f0 6=.int .i64 0:=by subst dQ;simp only[zB,seval]
  clear dQ;have gp:=(gk p mN).trans hp;have mB:=MO.dH (H':=HA) fun j hj=>gk j (by omega);have S1:=xF gp mB (n:=((m+1:Nat):Int)) (by omega) (by omega) hl;rw[fQ] at S1;obtain⟨HU,S2,GG,huk⟩:=aHr (g:=g) (r0:=r0) (r1:=r1) (n:=((m+1:Nat):Int)) mR lR mS hr hu gp mB (by omega) (by omega) hta hac FJ ph;rw[hub] at S2;simp only[yC] at S2;have y1:=(gk d1 (by omega)).trans g1;have y2:=(gk d2 (by omega)).trans g2;subst e1 e2;refine bQ ?_;simp only[↓zP,zJ,seval,v5,go,Zs];refine bR ?_;refine bY fun f1 mM=>?_;have w1:=Ks mM v1;have w3:=Ks mM v3;have w5:=Ks mM v5;have w6:=Ks mM v6;have w7:f1 7=.int .i64 m:=by subst mM;simp only[zB,seval]
  clear mM v1 v3 v5 v6;have lq:(bD qs).length=qs.length:=aO qs;have lt:(nG ts).length=ts.length:=dL ts;have e21:d2≠d1:=by omega
  refine bQ ?_;refine aL ?_;refine bQ ?_;simp only[↓zP,zJ,seval,w1,w5,go];refine bZ (S1) ?_;refine Tz ?_;refine bR ?_;cases b1
  . refine Ty ?_;exact ZaP
  simp only[↓zP,zJ,seval,w3,w7,gy,aB,lt,gD,vJ,Ph,hk0,fV];cases b2;rotate_left
  . refine Tx ?_;exact ZaP
  refine Tx ?_;refine Dz ?_;have z0:asNat (.int .i64 0)=some 0:=rfl;cases b3
  . simp only[↓zP,zJ,seval,zD,w1,w5,w7,gp,go,z0,aB,lq,Xe,Zj,oL aEw,FB,y2,x2,qY,Td];exact ZaP
  simp only[↓zP,zJ,seval,zD,w1,w3,w5,w7,gp,go,gy,z0,aB,lq,Xe,Zj,oL aEw,FB,y2,x2,qY,Td];refine bZ (S2) ?_;have uo:=(huk _ (by omega)).trans go;have uy:=(huk _ (by omega)).trans gy;have up:=(huk _ (by omega)).trans gp;have z1:=(huk d1 (by omega)).trans y1;have z2:=(huk d2 (by omega)).trans y2;have uk:∀j,j<H.next->HU.get j=H.get j:=fun j hj=>(huk j (by omega)).trans (gk j hj);cases b4;rotate_left
  . refine Tz ?_;refine Rx ?_;exact⟨rfl,by omega,fun j hj _=>uk j hj,MO.dH fun j hj=>uk j (by omega)⟩
  refine Tz ?_;refine bR ?_;refine bY fun f2 EZ=>?_;have x1':=Ks EZ w1;have x3':=Ks EZ w3;have x7':=Ks EZ w7;clear EZ w1 w3 w5 w6 w7;refine bQ ?_;refine Dz ?_;simp only[↓zP,zJ,seval,zD,x1',x3',x7',up,uy,aB,lt,gD,vJ,k7',oL Un,xG,FB,z1,z2,x1,x2,e21];refine bR ?_;refine Tz ?_;refine Rx ?_;rw[aRg,Pa,if_pos (show ll true false true false=0 from rfl)]
  have t4:∀{j:Nat} {X1 X2:fC},j≠d1->j≠d2->((HU.set d1 X1).set d2 X2).get j=HU.get j:=fun h1 h2=>by rw[aA.aD,if_neg h2,aA.aD,if_neg h1]
  refine⟨rfl,by simp only[aA.bC];omega,fun j hj hx=>(t4 (by omega) (by omega)).trans (uk j hj),?_⟩;have kk:∀j,j<hi->j≠d1->j≠d2->∀{X1 X2:fC},((HU.set d1 X1).set d2 X2).get j=H.get j:=fun j hj h1 h2=>(t4 h1 h2).trans (uk j (by omega));refine⟨n1,n2,n3,n4,n5,r1'.put rfl ?_ ?_ ⟨l1,u1⟩,r2'.put rfl ?_ ?_ ⟨l2,u2⟩,r3'.dH (Ab _) (Ab _) fun j h1 h2=>kk j (by omega) (by omega) (by omega),r4'.dH (Ab _) (Ab _) fun j h1 h2=>kk j (by omega) (by omega) (by omega),r5'.dH (Ab _) (Ab _) fun j h1 h2=>kk j (by omega) (by omega) (by omega),r6'.dH (Ab _) (Ab _) fun j h1 h2=>kk j (by omega) (by omega) (by omega),o1,o2,o3,o4,o5,o6⟩
  . simp only[bT,CN,By]
  . rw[aA.aD,if_neg e21.symm,aA.aD,if_pos rfl];rfl
  . simp only[aO,CN,By]
  rw[aA.aD,if_pos rfl];rfl)
 exact⟨H',hS,hq⟩
theorem du {P:Program} {g:bG} {n:Nat} {pairs:List (Nat×Nat)} {base:Nat} {i k:Nat} {rs:List bK} {rd:List (Nat×Nat)} {ef:List (Nat×aA×aA)} {f:dE} {H:aA} {R:dE->aA->Prop}
 {d:Nat} {c:Arg} {fid:FuncId} {fs cs:List AV} {xs:List Arg} {args:List AV} {v:AV} {H':aA} (hd:d<n) (hc:nQ g f c=.func (.func fid) fs cs) (ha:fs++xs.map (nQ g f)++cs=args) (hS:Sound P g fid args H (.ret v) H') (hn:H.next<=H'.next)
 (hr:∀x∈rd,(x.1,i)∈pairs->H.get x.2=H'.get x.2)
 (h:eG P g n pairs base (i+1) k rs rd ((i,H,H')::ef) (kD f d v) H' R):eG P g n pairs base i k (⟨some d,.call c xs,none⟩::rs) rd ef f H R:=by
 have :∀v,fP n f (some d) v=kD f d v:=fun v=>by simp[fP,hd]
 unfold eG;rw[if_pos (by rfl)];simp only[this];refine⟨v,H',?_,hn,hr,h⟩;exact⟨(fid,fs,cs),by rw[hc];rfl,by rw[ha];exact hS⟩
def aRj:List (AV×AV):=[(.int .i64 1,.func (.func 75) [] []),(.int .i64 2,.func (.func 77) [] []),(.int .i64 3,.func (.func 79) [] []),(.int .i64 4,.func (.func 80) [] []),(.int .i64 5,.func (.func 81) [] []),(.int .i64 6,.func (.func 82) [] [])]
theorem Uj (H:aA):∃H',Sg 34 [] H (.ret (.map H.next)) H'/\H'.get H.next=some (.map aRj)/\H'.next=H.next+1/\∀j,j<H.next->H'.get j=H.get j:=by
 obtain⟨_,H',⟨rfl,hq⟩,hS⟩:=cY (R:=fun o H'=>o=.ret (.map H.next)/\H'.get H.next=some (.map aRj)/\H'.next=H.next+1/\∀j,j<H.next->H'.get j=H.get j) fit bBo (args:=[]) (H:=H) (Ak rfl) (by
  unfold W34;dsimp only;simp only[↓zP,zJ,seval,HW,jY,sameKey];refine Rx ?_
  exact⟨rfl,by rw[aA.aD,if_pos rfl];rfl,by simp only[aA.bC,aA.aS],fun j hj=>by simp only[aA.aD,aA.aG,show ¬j=H.next from by omega,Bq]⟩)
 exact⟨H',hS,hq⟩
def DA (ts:List Th) (rs us:List (List Int)) (k n:Int) (qs:List (List Int)) (s:Sc):Int×Sc:=
 if k=1 then(if s.st.getD (n.toNat -1) false then(4,s) else(0,yB s (n.toNat -1) (qs.getD (qs.length -1) [])))
 else if k=2 then(Pu s ts rs us (qs.getD 0 []) (n.toNat -1),if Pu s ts rs us (qs.getD 0 []) (n.toNat -1)=0 then CN s (n.toNat -1) ((ts.map (·.store)).getD (n.toNat -1) []) else s)
 else if k=3 then(if PB s (rs.getD n.toNat []) n.toNat then(4,s) else(0,{s with ta:=s.ta.set n.toNat true}))
 else if k=4 then(if s.ta.getD n.toNat false then(0,{s with ta:=s.ta.set n.toNat false}) else(4,s))
 else if k=5 then(if Mv s (us.getD n.toNat []) n.toNat then(4,s) else(0,{s with ac:=s.ac.set n.toNat true}))
 else(if s.ac.getD n.toNat false then(0,{s with ac:=s.ac.set n.toNat false}) else(4,s))
structure YS (ts:List Th) (rs us:List (List Int)) (s:Sc):Prop where
 ht:∀t∈ts,t.OK
 hr:∀r∈rs,r.length=8
 hu:∀p∈us,p.length=10
 sJ:ts.length<2^30
 FJ:rs.length<2^30
 ph:us.length<2^30
 st:s.st.length=ts.length
 ps:s.ps.length=ts.length
 vs:s.vs.length=ts.length
 ws:s.ws.length=ts.length
 ta:s.ta.length=rs.length
 ac:s.ac.length=us.length
 me:∀r∈rs,(0<=r.getD 0 0/\r.getD 0 0<=ts.length)/\0<=r.getD 1 0/\r.getD 1 0<=ts.length
 push:∀r∈us,0<=r.getD 0 0/\r.getD 0 0<=ts.length
theorem vD {nT nR nP:Nat} {k n:Int} {qs:List (List Int)} (h:lN nT nR nP k n qs=0):
 ((k=1\/k=2)/\1<=n/\n<=nT/\2<=qs.length/\qs.length<=32)\/((k=3\/k=4)/\0<=n/\n<nR)\/((k=5\/k=6)/\0<=n/\n<nP)\/k=7\/k=8:=by
 unfold lN yW at h;by_cases h1:k=1\/k=2
 . simp only[h1,if_true] at h;split at h
   . cases h
   rename_i hn;split at h
   . cases h
   split at h
   . cases h
   rename_i hl
   have hm:Sw k=true:=(by unfold Sw;rcases h1 with rfl|rfl<;>rfl);simp[Sr,hm] at hl;simp at hn;exact .inl ⟨h1,by omega,by omega,by omega,by omega⟩
 simp only[h1,Bq] at h;by_cases h3:k=3\/k=4
 . simp only[h3,if_true] at h;split at h
   . cases h
   rename_i hn;simp at hn;exact .inr (.inl ⟨h3,by omega,by omega⟩)
 simp only[h3,Bq] at h;by_cases h5:k=5\/k=6
 . simp only[h5,if_true] at h;split at h
   . cases h
   rename_i hn;simp at hn;exact .inr (.inr (.inl ⟨h5,by omega,by omega⟩))
 simp only[h5,Bq] at h;by_cases h7:k=7
 . exact .inr (.inr (.inr (.inl h7)))
 simp only[h7,Bq] at h;by_cases h8:k=8
 . exact .inr (.inr (.inr (.inr h8)))
 simp only[h8,Bq] at h;cases h
theorem Nj {g r0 r1:Int} {ts:List Th} {rs us:List (List Int)} {tv rv uv pv:AV} {k n:Int} {qs:List (List Int)} {s:Sc} (hs:s.OK) (hy:YS ts rs us s) (mR:fI tv 14 (nG ts)) (lR:fI rv 8 (bD rs)) (mS:fI uv 10 (bD us))
 (uR:fI pv 7 (bD qs)) (hq:∀q∈qs,q.length=7) (hc:lN ts.length rs.length us.length k n qs=0) (h7:k≠7) (h8:k≠8)
 {H:aA} {p lo hi:Nat} {a b c d e f:AV} {o:Bool} (hp:H.get p=some (.cells [a,b,c,d,e,f] o)) (hm:fS H lo hi a b c d e f s) (mN:p<H.next) (Lq:hi<=H.next):
 ∃fid i H',jY .i (.int .i64 k) aRj 0=some (some (i,.func (.func fid) [] []))/\Sg fid [.agg (yC g r0 r1 tv rv uv),.ref p 0,.agg (oC k n pv)] H (.ret (.int .i64 (DA ts rs us k n qs s).1)) H'/\dp H H' lo hi a b c d e f (DA ts rs us k n qs s).2:=by
 have st:=hy.st;have ps:=hy.ps;have vs:=hy.vs;have ws:=hy.ws;have ta:=hy.ta;have ac:=hy.ac;have sJ:=hy.sJ;have DS:s.st.length<2^30:=by omega
 rcases vD hc with ⟨hk,n1,n2,q1,q2⟩|⟨hk,n1,n2⟩|⟨hk,n1,n2⟩|hk|hk
 . obtain⟨m,rfl⟩:∃m:Nat,n=((m+1:Nat):Int):=⟨(n -1).toNat,by omega⟩;have yZ:m<s.st.length:=by omega
   have hmt:(((m+1:Nat):Int)).toNat -1=m:=(by omega);have sH:s.st.getD m false=s.st[m]:=by simp[yZ]
   rcases hk with rfl|rfl
   . obtain⟨H',hS,hA⟩:=zu (g:=g) (r0:=r0) (r1:=r1) (tv:=tv) (rv:=rv) (uv:=uv) (k:=1) uR hq (by omega) (by omega) hp hm mN Lq yZ DS (by omega) (by omega) (by omega) (fun r h=>(hs.p7 r h).1) (fun r h=>(hs.v3 r h).1) (fun r h=>(hs.w3 r h).1);refine⟨_,_,H',rfl,?_⟩;unfold DA;simp only[if_true,hmt,sH];generalize s.st[m]=tb at *;cases tb<;>exact⟨hS,hA⟩
   obtain⟨H',hS,hA⟩:=l7 (g:=g) (r0:=r0) (r1:=r1) (k:=2) mR lR mS hy.ht hy.hr hy.hu uR hq (by omega) (by omega) hp hm mN Lq yZ DS (by omega) (by omega) (fun r h=>(hs.p7 r h).1) ta ac hy.FJ hy.ph;refine⟨_,_,H',rfl,?_⟩;unfold DA;simp only[if_true,hmt,show ¬(2:Int)=1 from by decide,Bq];exact⟨hS,hA⟩
 . obtain⟨m,rfl⟩:∃m:Nat,n=(m:Int):=⟨n.toNat,by omega⟩;have Uo:m<rs.length:=by omega
   have yZ:m<s.ta.length:=(by omega);have sH:s.ta.getD m false=s.ta[m]:=(by simp[yZ]);have WK:rs.getD m []=rs[m]:=(by simp[Uo]);have CB:=hy.me _ (Ac Uo)
   rcases hk with rfl|rfl
   . obtain⟨H',hS,hA⟩:=aTv (g:=g) (r0:=r0) (r1:=r1) (tv:=tv) (uv:=uv) (pv:=pv) (k:=3) lR hy.hr hp hm mN Lq yZ Uo DS (by omega) (by omega);refine⟨_,_,H',rfl,?_⟩;unfold DA;simp only[if_true,show ¬(3:Int)=1 from by decide,show ¬(3:Int)=2 from by decide,Bq,Dr,WK];generalize PB s rs[m] m=tb at *;cases tb<;>exact⟨hS,hA⟩
   obtain⟨H',hS,hA⟩:=aQx (g:=g) (r0:=r0) (r1:=r1) (tv:=tv) (rv:=rv) (uv:=uv) (pv:=pv) (k:=4) hp hm mN Lq yZ;refine⟨_,_,H',rfl,?_⟩;unfold DA;simp only[if_true,show ¬(4:Int)=1 from by decide,show ¬(4:Int)=2 from by decide,show ¬(4:Int)=3 from by decide,Bq,Dr,sH];generalize s.ta[m]=tb at *;cases tb<;>exact⟨hS,hA⟩
 . obtain⟨m,rfl⟩:∃m:Nat,n=(m:Int):=⟨n.toNat,by omega⟩;have Uo:m<us.length:=by omega
   have yZ:m<s.ac.length:=(by omega);have sH:s.ac.getD m false=s.ac[m]:=(by simp[yZ]);have WK:us.getD m []=us[m]:=(by simp[Uo]);have CB:=hy.push _ (Ac Uo)
   rcases hk with rfl|rfl
   . obtain⟨H',hS,hA⟩:=aQt (g:=g) (r0:=r0) (r1:=r1) (tv:=tv) (rv:=rv) (pv:=pv) (k:=5) mS hy.hu hp hm mN Lq yZ Uo DS (by omega);refine⟨_,_,H',rfl,?_⟩;unfold DA;simp only[if_true,show ¬(5:Int)=1 from by decide,show ¬(5:Int)=2 from by decide,show ¬(5:Int)=3 from by decide,show ¬(5:Int)=4 from by decide,Bq,Dr,WK];generalize Mv s us[m] m=tb at *;cases tb<;>exact⟨hS,hA⟩
   obtain⟨H',hS,hA⟩:=aEl (g:=g) (r0:=r0) (r1:=r1) (tv:=tv) (rv:=rv) (uv:=uv) (pv:=pv) (k:=6) hp hm mN Lq yZ;refine⟨_,_,H',rfl,?_⟩;unfold DA;simp only[show ¬(6:Int)=1 from by decide,show ¬(6:Int)=2 from by decide,show ¬(6:Int)=3 from by decide,show ¬(6:Int)=4 from by decide,show ¬(6:Int)=5 from by decide,Bq,Dr,sH];generalize s.ac[m]=tb at *;cases tb<;>exact⟨hS,hA⟩
 . exact absurd hk h7
 exact absurd hk h8
theorem _root_.Go.Av.Sound.wkT {P:Program} {g:bG} {f:FuncId} {args:List AV} {H H':aA} {vs WV:List AV} (h:Sound P g f args H (.ret (.iA vs)) H') (hl:WV.length=vs.length) (hw:∀j,j<vs.length->Wk (vs.getD j aC) (WV.getD j aC)):Sound P g f args H (.ret (.iA WV)) H':=
 ⟨h.1,fun G w us hG hv=>(h.2 G w us hG hv).mono fun e w' he=>by
   obtain⟨G',h1,h2,h3⟩:=he;refine⟨G',h1,h2,?_⟩
   cases e with
   |returned u=>
    change VR G' w' (.iA vs) u at h3;show VR G' w' (.iA WV) u
    cases h3 with
    |iA _ us' oU hj=>exact .iA WV us' (by omega) fun j FE=>VR.wk (hw j (by omega)) (hj j (by omega))
   |_=>exact h3.elim⟩
def xI (v:AV) (sz:Nat) (aY:List (List AV)):AV:=match v with
 |.aR=>.aR
 |.bB _ _ _=>.bB 1 sz []
 |_=>.bB 0 sz aY
def opV (v:AV) (sz:Nat) (aY:List (List AV)):AV:=match v with
 |.aR=>.aR
 |_=>.bB 0 sz aY
theorem iE {sz:Nat}:∀{aY:List (List AV)},(∀e∈aY,e.length=sz)->fM sz aY.length aY.flatten=aY
 |[],_=>rfl
 |e::aY,h=>by have he:=h e Ar;simp only[Aq,Bp,fM];rw[Cl (by omega),As (by omega),Ii,Ia (by omega),he,Nat.sub_self];simp[iE fun y hy=>h y (Aw _ hy)]
theorem Nf:∀{aY:List (List AV)},(∀e∈aY,bO e=true)->bO aY.flatten=true
 |[],_=>rfl
 |e::aY,h=>by rw[Bp,gY,h e Ar,Nf fun y hy=>h y (Aw _ hy)];rfl
theorem Ln.shut {H:aA} {lo hi:Nat} {v:AV} {sz:Nat} {aY:List (List AV)} (h:Ln H lo hi v sz aY) (hl:∀e∈aY,e.length=sz) (hf:∀e∈aY,bO e=true) (nw:Nat):jH H none nw v=some (xI v sz aY):=by
 rcases h with ⟨rfl,rfl|rfl⟩|⟨id,rfl,_,_,hg⟩
 . rfl
 . rfl
 have h1:H.eY id=some aY.flatten:=by simp only[aA.eY,hg]
 have hb:Nat.ble (aY.length*sz) aY.flatten.length=true:=Nat.ble_eq_true_of_le (by rw[gN hl];exact Ab _);simp only[jH,h1,El,Cs,hb,Nf hf,Cv,iE hl,xI]
theorem Ln.wk {H:aA} {lo hi:Nat} {v:AV} {sz:Nat} {aY:List (List AV)} (h:Ln H lo hi v sz aY):Wk (xI v sz aY) (opV v sz aY)/\fI (opV v sz aY) sz aY:=by
 rcases h with ⟨rfl,rfl|rfl⟩|⟨id,rfl,_,_,hg⟩
 . exact⟨.refl _,.inl ⟨rfl,rfl⟩⟩
 . exact⟨.bB 1 sz [] [] rfl (fun h=>h) rfl fun j hj=>absurd hj (An _),.inr rfl⟩
 exact⟨.refl _,.inr rfl⟩
def vZ (ts:List Th) (rs us:List (List Int)) (k n:Int) (qs:List (List Int)) (s:Sc):Int×Sc:=
 if lN ts.length rs.length us.length k n qs≠0 then(lN ts.length rs.length us.length k n qs,s)
 else if k=7\/k=8 then(0,s)
 else if lV s=false then(4,s)
 else if(DA ts rs us k n qs s).1≠0 then((DA ts rs us k n qs s).1,s)
 else DA ts rs us k n qs s
structure JK (s t:Sc):Prop where
 st:s.st=t.st
 ps:s.ps=t.ps
 vs:s.vs=t.vs
 ws:s.ws=t.ws
 ta:s.ta=t.ta
 ac:s.ac=t.ac
theorem fS.shut {H:aA} {lo hi:Nat} {a b c d e f:AV} {s:Sc} (h:fS H lo hi a b c d e f s) (p7:∀r∈s.ps,r.length=7) (v3:∀r∈s.vs,r.length=3) (w3:∀r∈s.ws,r.length=3) (x:Int) (nw:Nat):
 fT H none nw 2 (.iA [.agg [a,b,c,d,e,f],.int .i64 x])=some (.iA [.agg [xI a 1 (bE s.st),xI b 7 (bD s.ps),xI c 3 (bD s.vs),xI d 3 (bD s.ws),xI e 1 (bE s.ta),xI f 1 (bE s.ac)],.int .i64 x]):=by
 obtain⟨n1,n2,n3,n4,n5,r1,r2,r3,r4,r5,r6,_⟩:=h;simp only[fT,IG,r1.shut (jU _) (gX _),r2.shut (lF p7) (bF _),r3.shut (lF v3) (bF _),r4.shut (lF w3) (bF _),r5.shut (jU _) (gX _),r6.shut (jU _) (gX _),Bx];rfl
def VG (a b c d e f:AV) (s:Sc):Sc:=⟨opV a 1 (bE s.st),opV b 7 (bD s.ps),opV c 3 (bD s.vs),opV d 3 (bD s.ws),opV e 1 (bE s.ta),opV f 1 (bE s.ac),s.st,s.ps,s.vs,s.ws,s.ta,s.ac⟩
theorem fS.wk {P:Program} {g:bG} {fid:FuncId} {args:List AV} {H0 H0' H:aA} {lo hi:Nat} {a b c d e f:AV} {s:Sc} {x:Int} (h:fS H lo hi a b c d e f s)
 (hS:Sound P g fid args H0 (.ret (.iA [.agg [xI a 1 (bE s.st),xI b 7 (bD s.ps),xI c 3 (bD s.vs),xI d 3 (bD s.ws),xI e 1 (bE s.ta),xI f 1 (bE s.ac)],.int .i64 x])) H0'):Sound P g fid args H0 (.ret (.iA [.agg (VG a b c d e f s).cs,.int .i64 x])) H0':=by
 obtain⟨n1,n2,n3,n4,n5,r1,r2,r3,r4,r5,r6,_⟩:=h;refine Go.Av.Sound.wkT hS rfl fun j hj=>?_
 match j,hj with
 |0,_=>
  refine .agg _ _ rfl fun j hj=>?_
  match j,hj with
  |0,_=>exact r1.wk.1
  |1,_=>exact r2.wk.1
  |2,_=>exact r3.wk.1
  |3,_=>exact r4.wk.1
  |4,_=>exact r5.wk.1
  |5,_=>exact r6.wk.1
 |1,_=>exact .refl _
theorem fS.ok {H:aA} {lo hi:Nat} {a b c d e f:AV} {s:Sc} (h:fS H lo hi a b c d e f s) (p7:∀p∈s.ps,p.length=7/\kX p) (v3:∀w∈s.vs,w.length=3/\kX w) (w3:∀w∈s.ws,w.length=3/\kX w)
 (l1:s.st.length<2^30) (l2:s.ps.length<2^30) (l3:s.vs.length<2^30) (l4:s.ws.length<2^30) (l5:s.ta.length<2^30) (l6:s.ac.length<2^30):(VG a b c d e f s).OK:=by
 obtain⟨n1,n2,n3,n4,n5,r1,r2,r3,r4,r5,r6,_⟩:=h;exact⟨r1.wk.2,r2.wk.2,r3.wk.2,r4.wk.2,r5.wk.2,r6.wk.2,p7,v3,w3,l1,l2,l3,l4,l5,l6⟩
theorem fS.aKd {H H':aA} {lo hi:Nat} {a b c d e f:AV} {s:Sc} (hm:fS H lo hi a b c d e f s) (hk:∀j,lo<=j->j<hi->H'.get j=H.get j):fS H' lo hi a b c d e f s:=by obtain⟨n1,n2,n3,n4,n5,r1,r2,r3,r4,r5,r6,h⟩:=hm;exact⟨n1,n2,n3,n4,n5,r1.dH (Ab _) (Ab _) fun j g1 g2=>hk j (by omega) (by omega),r2.dH (Ab _) (Ab _) fun j g1 g2=>hk j (by omega) (by omega),r3.dH (Ab _) (Ab _) fun j g1 g2=>hk j (by omega) (by omega),r4.dH (Ab _) (Ab _) fun j g1 g2=>hk j (by omega) (by omega),r5.dH (Ab _) (Ab _) fun j g1 g2=>hk j (by omega) (by omega),r6.dH (Ab _) (Ab _) fun j g1 g2=>hk j (by omega) (by omega),h⟩
structure Kept (s t:Sc):Prop where
 p7:∀p∈t.ps,p.length=7/\kX p
 v3:∀w∈t.vs,w.length=3/\kX w
 w3:∀w∈t.ws,w.length=3/\kX w
 st:t.st.length=s.st.length
 ps:t.ps.length=s.ps.length
 vs:t.vs.length=s.vs.length
 ws:t.ws.length=s.ws.length
 ta:t.ta.length=s.ta.length
 ac:t.ac.length=s.ac.length
theorem Kept.refl {s:Sc} (h:s.OK):Kept s s:=⟨h.p7,h.v3,h.w3,rfl,rfl,rfl,rfl,rfl,rfl⟩
theorem Mb {α:Type} {P:α->Prop} {l:List α} {k:Nat} {x:α} (h:∀y∈l,P y) (hx:k<l.length->P x):∀y∈l.set k x,P y:=fun y hy=>by
 by_cases hk:k<l.length
 . rcases List.mem_or_eq_of_mem_set hy with h1|rfl
   . exact h y h1
   exact hx hk
 rw[List.set_eq_of_length_le (by omega)] at hy;exact h y hy
theorem aKk:zV.length=3/\kX zV:=⟨rfl,fun x hx=>by simp[zV] at hx;subst hx;decide⟩
theorem IP {ts:List Th} {rs us:List (List Int)} {k n:Int} {qs:List (List Int)} {s:Sc} (hs:s.OK) (hy:YS ts rs us s) (hq:∀q∈qs,q.length=7/\kX q) (hc:lN ts.length rs.length us.length k n qs=0):Kept s (DA ts rs us k n qs s).2:=by
 have K:=Kept.refl hs;unfold DA;split
 . rename_i h1;split
   . exact K
   obtain⟨n1,n2,q1,q2⟩:1<=n/\n<=ts.length/\2<=qs.length/\qs.length<=32:=by
    rcases vD hc with ⟨_,h⟩|⟨h,_⟩|⟨h,_⟩|h|h
    . exact h
    all_goals (exfalso;omega)
   have hj:qs.length -1<qs.length:=(by omega);have hqd:qs.getD (qs.length -1) []=qs[qs.length -1]:=(by simp[hj]);rw[hqd];exact⟨Mb hs.p7 fun _=>hq _ (Ac hj),Mb hs.v3 fun _=>aKk,Mb hs.w3 fun _=>aKk,By ..,By ..,By ..,By ..,rfl,rfl⟩
 split
 . rename_i h1;dsimp only;split
   . refine⟨Mb hs.p7 fun hl=>?_,hs.v3,hs.w3,By ..,By ..,rfl,rfl,rfl,rfl⟩;have XZ:n.toNat -1<ts.length:=(by have :=hy.ps;omega);rw[show(ts.map (·.store)).getD (n.toNat -1) []=ts[n.toNat -1].store by simp[XZ]];have :=hy.ht _ (Ac XZ);exact⟨this.store,this.i64⟩
   exact K
 split
 . split
   . exact K
   exact⟨hs.p7,hs.v3,hs.w3,rfl,rfl,rfl,rfl,By ..,rfl⟩
 split
 . split
   . exact⟨hs.p7,hs.v3,hs.w3,rfl,rfl,rfl,rfl,By ..,rfl⟩
   exact K
 split
 . split
   . exact K
   exact⟨hs.p7,hs.v3,hs.w3,rfl,rfl,rfl,rfl,rfl,By ..⟩
 split
 . exact⟨hs.p7,hs.v3,hs.w3,rfl,rfl,rfl,rfl,rfl,By ..⟩
 exact K
theorem JY {ts:List Th} {rs us:List (List Int)} {k n:Int} {qs:List (List Int)} {s:Sc} (hs:s.OK) (hy:YS ts rs us s) (hq:∀q∈qs,q.length=7/\kX q):Kept s (vZ ts rs us k n qs s).2:=by
 have K:=Kept.refl hs;unfold vZ;split
 . exact K
 rename_i h0;split
 . exact K
 split
 . exact K
 split
 . exact K
 exact IP hs hy hq (by simpa using h0)
theorem rq {g r0 r1:Int} {ts:List Th} {rs us:List (List Int)} {tv rv uv pv:AV} {k n:Int} {qs:List (List Int)} {s:Sc} (hs:s.OK) (hy:YS ts rs us s) (mR:fI tv 14 (nG ts)) (lR:fI rv 8 (bD rs)) (mS:fI uv 10 (bD us))
 (uR:fI pv 7 (bD qs)) (hq:∀q∈qs,q.length=7/\kX q) (Ls:qs.length<2^63):
 ∃t:Sc,t.OK/\JK t (vZ ts rs us k n qs s).2/\∀H,Sg 8 [.agg (yC g r0 r1 tv rv uv),.agg s.cs,.agg (oC k n pv)] H (.ret (.iA [.agg t.cs,.int .i64 (vZ ts rs us k n qs s).1])) H:=by
 obtain⟨HA,WH⟩:∃HA:aA,HA=((((aA.mk 0 .nil).alloc (.cells (yC g r0 r1 tv rv uv) false)).alloc (.cells s.cs false)).alloc (.cells (oC k n pv) false)).alloc (.cells [.aR,.aR,.aR,.aR,.aR,.aR] false):=⟨_,rfl⟩;have a0:HA.get 0=some (.cells (yC g r0 r1 tv rv uv) false):=by subst WH;simp only[zI,seval]
 have a1:HA.get 1=some (.cells s.cs false):=by subst WH;simp only[zI,seval]
 have a2:HA.get 2=some (.cells (oC k n pv) false):=by subst WH;simp only[zI,seval]
 have a3:HA.get 3=some (.cells [.aR,.aR,.aR,.aR,.aR,.aR] false):=by subst WH;simp only[zI,seval]
 have an:HA.next=4:=by subst WH;simp only[zI,seval]
 have vh:bO [.agg (yC g r0 r1 tv rv uv),.agg s.cs,.agg (oC k n pv)]=true:=by
  have h1:=Sc.free hs;have h2:bO (yC g r0 r1 tv rv uv)=true:=by simp only[yC,sf,mR.free (fX hy.ht),lR.free (bF _),mS.free (bF _)]
  have h3:bO (oC k n pv)=true:=by simp only[oC,sf,uR.free (bF _)]
  simp only[sf,h1,h2,h3]
 have S1:=aDr (g:=g) (r0:=r0) (r1:=r1) (k:=k) (n:=n) mR lR mS uR hy.ht hq (by have :=hy.FJ;omega) (by have :=hy.ph;omega) (by omega) HA;obtain⟨a,b,c,d,e,f,H1,S2,M1,n1,k1⟩:=ig hs HA;have b0:=(k1 0 (by omega)).trans a0;have b1:=(k1 1 (by omega)).trans a1;have b2:=(k1 2 (by omega)).trans a2;have b3:=(k1 3 (by omega)).trans a3;obtain⟨HB,uw⟩:∃HB:aA,HB=(H1.alloc (.cells [.aR,.aR,.aR,.aR,.aR,.aR] false)).set H1.next (.cells [a,b,c,d,e,f] false):=⟨_,rfl⟩;have cn:HB.next=H1.next+1:=by subst uw;simp only[aA.bC,aA.aS]
 have ck:∀j,j<H1.next->HB.get j=H1.get j:=fun j hj=>by subst uw;rw[aA.aD,if_neg (by omega),aA.aG,if_neg (by omega)]
 have c0:=(ck 0 (by omega)).trans b0;have c1:=(ck 1 (by omega)).trans b1;have c2:=(ck 2 (by omega)).trans b2;have c3:=(ck 3 (by omega)).trans b3;have c9:HB.get H1.next=some (.cells [a,b,c,d,e,f] false):=by subst uw;rw[aA.aD,if_pos rfl]
 have M2:fS HB HA.next H1.next a b c d e f s:=M1.dH fun j hj=>ck j (by omega);have S3:=aHe hs HB;obtain⟨HC,S4,m4,cn4,ck4⟩:=Uj HB;have e0:=(ck4 0 (by omega)).trans c0;have e1:=(ck4 1 (by omega)).trans c1;have e2:=(ck4 2 (by omega)).trans c2;have e3:=(ck4 3 (by omega)).trans c3;have e9:=(ck4 H1.next (by omega)).trans c9;have M3:fS HC HA.next H1.next a b c d e f s:=M2.dH fun j hj=>ck4 j (by omega);have l6:(yC g r0 r1 tv rv uv).length=6:=rfl;have l3:(oC k n pv).length=3:=rfl;have ls:s.cs.length=6:=rfl;have k0:(oC k n pv).getD 0 aC=.int .i64 k:=rfl;have K0:=JY (k:=k) (n:=n) hs hy hq;obtain⟨mV,hmV⟩:∃mV:Sc->AV,∀t,mV t=.iA [.agg [xI a 1 (bE t.st),xI b 7 (bD t.ps),xI c 3 (bD t.vs),xI d 3 (bD t.ws),xI e 1 (bE t.ta),xI f 1 (bE t.ac)],.int .i64 0]:=⟨_,fun _=>rfl⟩
 obtain⟨V,hV⟩:∃V:AV,V=if lN ts.length rs.length us.length k n qs≠0 then(.iA [.agg s.cs,.int .i64 (lN ts.length rs.length us.length k n qs)]) else if k=7\/k=8 then mV s else if lV s=false then(.iA [.agg s.cs,.int .i64 4]) else if(DA ts rs us k n qs s).1≠0 then(.iA [.agg s.cs,.int .i64 (DA ts rs us k n qs s).1]) else mV (DA ts rs us k n qs s).2:=⟨_,rfl⟩
 have fcs:=Sc.free hs
 have sS:∀(H:aA) (x:Int) (nw:Nat),fT H none nw 2 (.iA [.agg s.cs,.int .i64 x])=some (.iA [.agg s.cs,.int .i64 x]):=fun H x nw=>by
  have g1:∀{v:AV} {sz:Nat} {aY:List (List AV)},fI v sz aY->(∀e∈aY,bO e=true)->jH H none nw v=some v:=fun h hf=>by
   rcases h with ⟨rfl,_⟩|rfl
   . rfl
   simp only[jH,tM hf];rfl
  simp only[fT,IG,Sc.cs,g1 hs.st (gX _),g1 hs.ps (bF _),g1 hs.vs (bF _),g1 hs.ws (bF _),g1 hs.ta (gX _),g1 hs.ac (gX _),Bx];rfl
 have hW:∀H,Sg 8 [.agg (yC g r0 r1 tv rv uv),.agg s.cs,.agg (oC k n pv)] H (.ret V) H:=fun H=>by
  refine eQ fit fG is8 (Ak rfl) vh ?_ H;unfold W8;dsimp only;refine bQ ?_;refine Ty ?_;refine bR ?_;rw[<-WH];refine bY fun f0 dQ=>?_;have v3:f0 3=.ref 0 0:=by subst dQ;simp only[zB,seval]
  have v4:f0 4=.ref 1 0:=by subst dQ;simp only[zB,seval]
  have v5:f0 5=.ref 2 0:=by subst dQ;simp only[zB,seval]
  have v6:f0 6=.ref 3 0:=by subst dQ;simp only[zB,seval]
  have v7:f0 7=.int .i64 0:=by subst dQ;simp only[zB,seval]
  clear dQ WH;refine bQ ?_;simp only[↓zP,zJ,seval,v3,v5,a0,a2,oL l6,oL l3];refine bZ (S1) ?_;by_cases hc:lN ts.length rs.length us.length k n qs=0;rotate_left
  . rw[if_pos hc] at hV;have hb:(lN ts.length rs.length us.length k n qs != 0)=true:=De.2 hc;simp only[↓zP,zJ,seval,hb,v4,v6,a1,a3,oL ls];refine⟨rfl,_,by simp only[↓zP,zR,seval,v6];rfl,?_⟩;subst hV;exact⟨_,2,rfl,fun nw=>sS _ _ nw⟩
  have hb:(lN ts.length rs.length us.length k n qs != 0)=false:=bne_eq_false_iff_eq.2 hc;rw[if_neg (not_not_intro hc)] at hV;simp only[↓zP,zG,seval,hb];refine bR ?_;have st:∀{H:aA} {X:fC} {t:Sc},fS H HA.next H1.next a b c d e f t->fS (H.set 3 X) HA.next H1.next a b c d e f t:=fun h=>h.aKd fun j h1 h2=>by rw[aA.aD,if_neg (by omega)]
  have q7:=fun r h=>(hs.p7 r h).1;have q3:=fun r h=>(hs.v3 r h).1;have qw:=fun r h=>(hs.w3 r h).1;refine bY fun f1 mM=>?_;have w3:=Ks mM v3;have w4:=Ks mM v4;have w5:=Ks mM v5;have w6:=Ks mM v6;have w7:=Ks mM v7;clear mM v3 v4 v5 v6 v7;refine bQ ?_;simp only[↓zP,zJ,seval,w4,a1,oL ls];refine bZ (S2) ?_;refine Ty ?_;refine bR ?_;rw[<-uw];refine bY fun f2 EZ=>?_;have v3:=Ks EZ w3;have v4:=Ks EZ w4;have v5:=Ks EZ w5;have v6:=Ks EZ w6;have v7:=Ks EZ w7;have v9:f2 9=.ref H1.next 0:=by subst EZ;simp only[zB,seval]
  clear EZ w3 w4 w5 w6 w7 uw;generalize H1.next=r9 at *;refine bQ ?_;by_cases h7:k=7
  . have d7:(k==7)=true:=Ca.2 h7;rw[if_pos (.inl h7)] at hV;simp only[↓zP,zJ,seval,v5,v6,v9,c2,c3,c9,l3,k0,d7];refine⟨rfl,_,by simp only[↓zP,zR,seval,v6];rfl,?_⟩;subst hV;rw[hmV];exact⟨_,2,rfl,fun nw=>(st M2).shut q7 q3 qw 0 nw⟩
  have d7:(k==7)=false:=Bl.2 h7;by_cases h8:k=8
  . have d8:(k==8)=true:=Ca.2 h8;rw[if_pos (.inr h8)] at hV;simp only[↓zP,zJ,seval,v5,v6,v9,c2,c3,c9,l3,k0,d7,d8];refine⟨rfl,_,by simp only[↓zP,zR,seval,v6];rfl,?_⟩;subst hV;rw[hmV];exact⟨_,2,rfl,fun nw=>(st M2).shut q7 q3 qw 0 nw⟩
  have d8:(k==8)=false:=Bl.2 h8;rw[if_neg (fun h=>h.elim h7 h8)] at hV;simp only[↓zP,zJ,seval,v5,c2,l3,k0,d7,d8];refine bR ?_;refine bY fun f1 mM=>?_;have w3:=Ks mM v3;have w4:=Ks mM v4;have w5:=Ks mM v5;have w6:=Ks mM v6;have w7:=Ks mM v7;have w9:=Ks mM v9;clear mM v3 v4 v5 v6 v7 v9;refine bQ ?_;simp only[↓zP,zJ,seval,w4,c1,oL ls];refine bZ (S3) ?_;generalize lV s=rb at *;cases rb
  . rw[if_pos rfl] at hV;simp only[↓zP,zJ,seval,w4,w6,c1,c3,oL ls];refine⟨rfl,_,by simp only[↓zP,zR,seval,w6];rfl,?_⟩;subst hV;exact⟨_,2,rfl,fun nw=>sS _ _ nw⟩
  rw[if_neg (by decide)] at hV;refine Ty ?_;refine bR ?_;refine bY fun f2 EZ=>?_;have v3:=Ks EZ w3;have v4:=Ks EZ w4;have v5:=Ks EZ w5;have v6:=Ks EZ w6;have v7:=Ks EZ w7;have v9:=Ks EZ w9;clear EZ w3 w4 w5 w6 w7 w9;obtain⟨fid,ix,HD,XW,S5,A5⟩:=Nj (g:=g) (r0:=r0) (r1:=r1) hs hy mR lR mS uR (fun q h=>(hq q h).1) hc h7 h8 e9 M3 (by omega) (by omega);have d1:=(A5.CI 1 (by omega) (by omega)).trans e1;have d3:=(A5.CI 3 (by omega) (by omega)).trans e3;have d9:=(A5.CI r9 (by omega) (by omega)).trans e9;have dn:=A5.next;have M5:=A5.mem;have K5:=IP (k:=k) (n:=n) hs hy hq hc;generalize DA ts rs us k n qs s=R at *;refine bQ ?_;refine bQ ?_;refine Dz ?_;apply iO (hS:=S4)
  . decide
  . rfl
  . omega
  . intro x hx;cases hx
  have kO:HW .i (.int .i64 k)=true:=rfl;simp only[↓zP,zJ,seval,zD,v3,v5,e0,e2,c0,c2,k0,l3,oL l6,oL l3,m4,kO,XW];refine du (fid:=fid) (fs:=[]) (cs:=[]) (by decide) (by simp only[iV,zB,seval]) (by simp only[Cd,Fp,Dc,Ch,iV,zB,seval];rw[v9]) S5 dn ?_ ?_
  . simp only[zD,reduceCtorEq];exact⟨fun h=>absurd h (by decide),fun h=>absurd h (by decide),fun h=>absurd h (by decide),fun h=>absurd h (by decide)⟩
  simp only[↓zP,zJ,seval,zD];refine bR ?_;refine bY fun f1 mM=>?_;have w4:=Ks mM v4;have w6:=Ks mM v6;have w7:=Ks mM v7;have w9:=Ks mM v9;have w10:f1 10=.int .i64 R.1:=by subst mM;simp only[zB,seval]
  clear mM v3 v4 v5 v6 v7 v9;by_cases hx:R.1=0;rotate_left
  . have hb:(R.1 != 0)=true:=De.2 hx;rw[if_pos hx] at hV;simp only[↓zP,zJ,seval,hb,w4,w6,w10,d1,d3,oL ls];refine⟨rfl,_,by simp only[↓zP,zR,seval,w6];rfl,?_⟩;subst hV;exact⟨_,2,rfl,fun nw=>sS _ _ nw⟩
  have hb:(R.1 != 0)=false:=bne_eq_false_iff_eq.2 hx;rw[if_neg (not_not_intro hx)] at hV;simp only[↓zP,zG,seval,hb,w10];refine bR ?_;simp only[↓zP,zJ,seval,w6,w9,d3,d9];refine⟨rfl,_,by simp only[↓zP,zR,seval,w6];rfl,?_⟩;subst hV;rw[hmV];exact⟨_,2,rfl,fun nw=>(st M5).shut (fun p h=>(K5.p7 p h).1) (fun p h=>(K5.v3 p h).1) (fun p h=>(K5.w3 p h).1) 0 nw⟩
 have okS:∀{H:aA} {lo hi:Nat} {t:Sc},fS H lo hi a b c d e f t->Kept s t->(VG a b c d e f t).OK:=fun M K=>M.ok K.p7 K.v3 K.w3 (by rw[K.st];exact hs.bB) (by rw[K.ps];exact hs.lps) (by rw[K.vs];exact hs.lvs) (by rw[K.ws];exact hs.lws) (by rw[K.ta];exact hs.lta) (by rw[K.ac];exact hs.lac);unfold vZ;by_cases hc:lN ts.length rs.length us.length k n qs=0;rotate_left
 . rw[if_pos hc] at hV ⊢;exact Zax
 rw[if_neg (not_not_intro hc)] at hV ⊢;by_cases h78:k=7\/k=8
 . rw[if_pos h78] at hV ⊢;subst hV;rw[hmV] at hW;exact⟨VG a b c d e f s,okS M2 (Kept.refl hs),⟨rfl,rfl,rfl,rfl,rfl,rfl⟩,fun H=>M2.wk (hW H)⟩
 rw[if_neg h78] at hV ⊢;by_cases hr:lV s=false
 . rw[if_pos hr] at hV ⊢;exact Zax
 rw[if_neg hr] at hV ⊢;by_cases hx:(DA ts rs us k n qs s).1=0;rotate_left
 . rw[if_pos hx] at hV ⊢;exact Zax
 rw[if_neg (not_not_intro hx)] at hV ⊢;subst hV;rw[hmV] at hW;obtain⟨fid,ix,HD,XW,S5,A5⟩:=Nj (g:=g) (r0:=r0) (r1:=r1) hs hy mR lR mS uR (fun q h=>(hq q h).1) hc (fun h=>h78 (.inl h)) (fun h=>h78 (.inr h)) e9 M3 (by omega) (by omega);exact⟨VG a b c d e f (DA ts rs us k n qs s).2,okS A5.mem (IP hs hy hq hc),⟨rfl,rfl,rfl,rfl,rfl,rfl⟩,fun H=>by rw[hx];exact A5.mem.wk (hW H)⟩
theorem cc {s:Sc} (h:lV s=true):(∀w∈s.vs,w=zV)/\∀w∈s.ws,w=zV:=by simp only[lV,IJ,Al,Ct,Bool.not_eq_eq_eq_not,Gv,Bh,Ib] at h;exact⟨fun w hw=>by simpa using h.1 w hw,fun w hw=>by simpa using h.2 w hw⟩
theorem HL {l:List (List Int)} {i:Nat} (h:∀w∈l,w=zV) (hi:i<l.length):l.getD i []=zV:=by rw[show l.getD i []=l[i] by simp[hi]];exact h _ (Ac hi)
theorem aBd {l:List (List Int)} {i:Nat} (h:∀w∈l,w=zV):l.set i zV=l:=by
 apply Fs (By ..);intro j h1 h2;rw[List.getElem_set];split
 . exact(h _ (Ac h2)).symm
 rfl
theorem LY {s:Sc} {m:Nat} {x:List Int} (h:lV s=true):yB s m x={s with st:=s.st.set m true,ps:=s.ps.set m x}:=by obtain⟨h1,h2⟩:=cc h;unfold yB;rw[show([0,0,0]:List Int)=zV from rfl,aBd h1,aBd h2]
theorem PA:∀{seen:List (List UInt8)} {ts:List Th},MB seen ts=0->∀t∈ts,gW t.store=0
 |_,[],_,t,ht=>by cases ht
 |seen,x::ts,h,t,ht=>by
  unfold MB at h;split at h
  . rename_i h1;exact absurd h h1
  rename_i h1;split at h
  . cases h
  rcases Am.1 ht with rfl|ht
  . simp only[Ib] at h1;unfold WT at h1;split at h1
    . cases h1
    rename_i h2;by_cases h3:gW t.store=0
    . exact h3
    exact absurd (.inr h3) h2
  exact PA h t ht
theorem fx {nT nR nP:Nat} {k n:Int} {qs:List (List Int)} (h:lN nT nR nP k n qs=0) {i:Nat} (hi:i<qs.length):gW qs[i]=0:=by
 unfold lN at h;split at h
 . cases h
 split at h
 . cases h
 split at h
 . cases h
 rename_i h1;simp only[Eh,Ct,Au] at h1;have :=h1 i hi;simp only[mK,Da] at this;have h2:=this.1;rw[show qs.getD i []=qs[i] by simp[hi]] at h2;simpa using h2
theorem aJb (m:Int) (h:0<=m):zA m zV=true:=by simp only[zA,zV,Ik,List.all_nil,Fa,Cv,Bd];omega
theorem Wn {q p:List Int} (h:gW q=0):Ry q p zV zV true=false:=by unfold Ry;rw[h,aJb _ (by decide)];rfl
theorem UA {q:List Int} (h:gW q=0):Ry q q zV zV false=false:=by unfold Ry;rw[h,aJb _ (by decide)];simp
theorem getD_set_ne {α:Type} {l:List α} {i j:Nat} {x d:α} (h:i≠j):(l.set i x).getD j d=l.getD j d:=by simp[List.getD,h]
theorem uQ {α:Type} {l:List α} {i:Nat} {x d:α} (h:i<l.length):(l.set i x).getD i d=x:=by simp[List.getD,h]
theorem uh {ts:List Th} {r u:Nat} {s t:Sc} (h:lC ts r u s=true) (hk:Kept s t) (hb:∀i,i<ts.length->wA ts s i=false->wA ts t i=false):lC ts r u t=true:=by
 have h1:FL ts.length r u s=false:=by
  cases e:FL ts.length r u s with
  |false=>rfl
  |true=>rw[wH e] at h;cases h
 refine KF ?_ fun i hi=>hb i hi ?_
 . unfold FL at h1 ⊢;rw[hk.st,hk.ps,hk.vs,hk.ws,hk.ta,hk.ac];exact h1
 cases e:wA ts s i with
 |false=>rfl
 |true=>rw[Na hi e] at h;cases h
theorem fk {ts:List Th} {rs us:List (List Int)} {k n:Int} {qs:List (List Int)} {s:Sc} (hs:s.OK) (hy:YS ts rs us s) (hq:∀q∈qs,q.length=7/\kX q) (fQ:∀t∈ts,gW t.store=0) (h:lC ts rs.length us.length s=true):lC ts rs.length us.length (vZ ts rs us k n qs s).2=true:=by
 have K:=JY (k:=k) (n:=n) hs hy hq;revert K;unfold vZ;split
 . exact fun _=>h
 rename_i h0;simp only[Ib] at h0;split
 . exact fun _=>h
 split
 . exact fun _=>h
 rename_i Zp;simp only[Bool.not_eq_false] at Zp;obtain⟨z1,z2⟩:=cc Zp;split
 . exact fun _=>h
 intro K;refine uh h K fun i hi=>?_;have e1:=hy.st;have e2:=hy.ps;have e3:=hy.vs;have e4:=hy.ws;unfold DA;split
 . rename_i h1;split
   . exact id
   obtain⟨n1,n2,q1,q2⟩:1<=n/\n<=ts.length/\2<=qs.length/\qs.length<=32:=by
    rcases vD h0 with ⟨_,h⟩|⟨h,_⟩|⟨h,_⟩|h|h
    . exact h
    all_goals (exfalso;omega)
   unfold wA;rw[LY Zp];by_cases hm:n.toNat -1=i
   . intro _;subst hm;dsimp only;rw[uQ (by omega),uQ (by omega),HL z1 (by omega),HL z2 (by omega),show qs.getD (qs.length -1) []=qs[qs.length -1] by simp[show qs.length -1<qs.length by omega]];exact Wn (fx h0 (by omega))
   dsimp only;rw[getD_set_ne hm,getD_set_ne hm];exact id
 split
 . dsimp only;split
   . unfold wA CN;by_cases hm:n.toNat -1=i
     . intro _;subst hm;dsimp only;rw[uQ (by omega),uQ (by omega),HL z1 (by omega),HL z2 (by omega),show(ts.map (·.store)).getD (n.toNat -1) []=ts[n.toNat -1].store by simp[hi]];exact UA (fQ _ (Ac hi))
     dsimp only;rw[getD_set_ne hm,getD_set_ne hm];exact id
   exact id
 split
 . split<;>exact id
 split
 . split<;>exact id
 split
 . split<;>exact id
 split<;>exact id
theorem sr {g r0 r1:Int} {ts:List Th} {rs us:List (List Int)} (h:vE g r0 r1 ts rs us=0):
 ts.length<=64/\rs.length<=16/\us.length<=16/\(∀t∈ts,gW t.store=0)/\(∀r∈rs,PU ts.length r=false)/\∀r∈us,PT ts.length r=false:=by
 unfold vE at h;split at h
 . cases h
 rename_i h1;simp only[LU,Eh,Da,Bh] at h1;split at h
 . cases h
 split at h
 . rename_i h3;exact absurd h h3
 rename_i h3;simp only[Ib] at h3;split at h
 . cases h
 rename_i h4;split at h
 . cases h
 rename_i h5;simp only[Eh,Ct] at h4 h5;exact⟨by omega,by omega,by omega,PA h3,fun r hr=>by simpa using h4 r hr,fun r hr=>by simpa using h5 r hr⟩
theorem fm {n:Int} {r:List Int} (h:PU n r=false):(0<=r.getD 0 0/\r.getD 0 0<=n)/\0<=r.getD 1 0/\r.getD 1 0<=n:=by simp only[PU,Da,Bh] at h;omega
theorem rz {n:Int} {r:List Int} (h:PT n r=false):1<=r.getD 0 0/\r.getD 0 0<=n:=by simp only[PT,Da,Bh] at h;omega
theorem aIe {g r0 r1:Int} {ts:List Th} {rs us:List (List Int)} {s:Sc} (ht:∀t∈ts,t.OK) (hr:∀r∈rs,r.length=8) (hu:∀p∈us,p.length=10) (hc:vE g r0 r1 ts rs us=0) (hf:lC ts rs.length us.length s=true):YS ts rs us s:=by
 obtain⟨c1,c2,c3,_,c5,c6⟩:=sr hc
 have hl:FL ts.length rs.length us.length s=false:=by
  cases e:FL ts.length rs.length us.length s with
  |false=>rfl
  |true=>rw[wH e] at hf;cases hf
 obtain⟨l1,l2,l3,l4,l5,l6⟩:=MT hl;exact⟨ht,hr,hu,by omega,by omega,by omega,l1,l2,l3,l4,l5,l6,fun r h=>fm (c5 r h),fun r h=>by have :=rz (c6 r h);omega⟩
theorem YS.kept {ts:List Th} {rs us:List (List Int)} {s t:Sc} (h:YS ts rs us s) (hk:Kept s t):YS ts rs us t:=
 ⟨h.ht,h.hr,h.hu,h.sJ,h.FJ,h.ph,hk.st.trans h.st,hk.ps.trans h.ps,hk.vs.trans h.vs,hk.ws.trans h.ws,hk.ta.trans h.ta,hk.ac.trans h.ac,h.me,h.push⟩
def UW (t:Th):Bool:= !decide ((t.ps.length:Int)>2)&&t.ps.all fun p=> !decide ((p.2.length:Int)>10)
def RF (n r u:Nat):Bool:=decide ((n:Int)>6)||(decide ((r:Int)>20)||decide ((u:Int)>20))
def NX (ts:List Th) (r u:Nat):Bool:= !RF ts.length r u&&ts.all UW
theorem uc {ts:List Th} {r u:Nat} (h:NX ts r u=true):ts.length<=6/\r<=20/\u<=20/\∀t∈ts,t.Few:=by simp only[NX,RF,Al,Cn,Da,Bh,Ax] at h;refine⟨by omega,by omega,by omega,fun t ht=>?_⟩;have h2:=h.2 t ht;simp only[UW,Al,Cn,Bh,Ax] at h2;exact⟨by omega,fun p hp=>by have :=h2.2 p hp;omega⟩
theorem aRe {g r0 r1:Int} {ts:List Th} {rs us:List (List Int)} {tv rv uv:AV} (mR:fI tv 14 (nG ts)) (lR:fI rv 8 (bD rs)) (mS:fI uv 10 (bD us)) (ht:∀t∈ts,t.OK) (H:aA):
 Sg 12 [.agg (yC g r0 r1 tv rv uv)] H (.ret (.bool (NX ts rs.length us.length))) H:=by
 refine So bGh (by simp only[yC,sf,mR.free (fX ht),lR.free (bF _),mS.free (bF _)]) ?_ H;unfold W12;dsimp only;have lt:=mR.len;have lr:=lR.len;have lu:=mS.len;simp only[dA] at lt lr lu;rw[dL] at lt;rw[aO] at lr lu;have hY:NX ts rs.length us.length=(!RF ts.length rs.length us.length&&ts.all UW):=rfl
 have h6:RF ts.length rs.length us.length=false->ts.length<=6:=fun h=>by simp only[RF,Da,Bh] at h;omega
 unfold RF at hY h6;generalize eC:decide ((ts.length:Int)>6)=b1 at *;generalize fV:decide ((rs.length:Int)>20)=b2 at *;generalize CA:decide ((us.length:Int)>20)=b3 at *;refine bQ ?_;simp only[↓zP,zJ,seval,yC];refine bR ?_;refine aJ fun K hK=>?_;cases b1<;>cases b2<;>cases b3;rotate_left
 iterate 7 (simp only[↓zP,zJ,seval,lt,lr,lu,eC,fV,CA];refine Rx ?_;rw[hY];rfl)
 have h6:=h6 rfl;simp only[↓zP,zJ,seval,lt,lr,lu,eC,fV,CA];apply hK;clear hK K eC fV CA;generalize hX:(aA.mk 0 .nil).alloc _=HA;have g0:HA.get 0=some (.cells [.int .i64 g,.int .i64 r0,.int .i64 r1,tv,rv,uv] false):=by subst hX;simp only[zI,seval]
 clear hX;refine bY fun f dQ=>?_;have f1:f 1=.ref 0 0:=by subst dQ;simp only[zB,seval]
 clear dQ
 have eW:∀{i:Nat} (hi:i<ts.length),UW ts[i]=false->NX ts rs.length us.length=false:=fun hi h=>by rw[hY,Ej.2 ⟨_,Ac hi,by rw[h];decide⟩];rfl
 have xV:(∀t∈ts,UW t=true)->NX ts rs.length us.length=true:=fun h=>by rw[hY,Ax.2 h];rfl
 clear hY;refine aJ fun K hK=>?_;refine Tz ?_;refine bP [] (fun i vs H'=>H'=HA/\∀t∈ts.take i,UW t=true) 0 ts.length (Az _) (by omega) (by decide) ?_ ?_ ?_ ?_ ?_
 . exact zq
 . exact⟨rfl,fun p hp=>by simp at hp⟩
 . rintro i f4 H1 h0 hi hk e1 ⟨rfl,_⟩;have u1:f4 1=.ref 0 0:=by rw[hk 1 rfl];simp only[zB,seval];exact f1
   simp only[↓zP,zJ,seval,e1,u1,g0,lt];exact Zaf
 . rintro i f4 H1 h0 hi hk e1 ⟨rfl,bV⟩;have u1:f4 1=.ref 0 0:=by rw[hk 1 rfl];simp only[zB,seval];exact f1
   have sJ:tv=.bB 0 14 (nG ts):=mR.bB (i:=i) (by rw[dL];exact hi);have hg:=oS hi;have rO:=ht _ (Ac hi);have fQ:=List.qR hi bV;have eW:=eW hi;have Ph:=Th.len rO;have k2:List.drop 1 (List.drop 1 ts[i].cs)=ts[i].pv::ts[i].cs.drop 3:=rfl
   have hpr:fI ts[i].pv 1 (MZ ts[i].ps):=by
    rcases rO.parts with ⟨h1,h2⟩|h
    . exact .inl ⟨h1,by rw[h2];rfl⟩
    exact .inr h
   have Uq:=rO.part;generalize ts[i]=t at *;have lpv:=hpr.len;simp only[dA] at lpv;have Tc:(MZ t.ps).length=t.ps.length:=Af _;rw[Tc] at lpv;refine aL ?_;refine bQ ?_;have hT:UW t=(!decide ((t.ps.length:Int)>2)&&t.ps.all fun p=> !decide ((p.2.length:Int)>10)):=rfl;cases eC:decide ((t.ps.length:Int)>2);rotate_left
   . simp only[↓zP,zJ,seval,e1,u1,g0,sJ,aB,dL,hi,hg,k2,lpv,eC];refine Rx ?_;rw[eW (by rw[hT,eC];rfl)];rfl
   have h2:=Dn eC;simp only[↓zP,zJ,seval,e1,u1,g0,sJ,aB,dL,hi,hg,k2,lpv,eC];refine bR ?_;rw[eC] at hT;refine Tz ?_;refine bP [] (fun j vs H'=>H'=H1/\∀p∈t.ps.take j,(!decide ((p.2.length:Int)>10))=true) 0 t.ps.length (Az _) (by omega) (by decide) ?_ ?_ ?_ ?_ ?_
   . exact zq
   . exact⟨rfl,fun p hp=>by simp at hp⟩
   . rintro j f5 H2 Ni hj eO e2 ⟨rfl,_⟩;have v1:f5 1=.ref 0 0:=(by rw[eO 1 rfl];simp only[zB,seval];exact u1);have v3:f5 3=.int .i64 i:=(by rw[eO 3 rfl];simp only[zB,seval];exact e1);simp only[↓zP,zJ,seval,e2,v1,v3,g0,sJ,aB,dL,hi,hg,k2,lpv];exact Zaf
   . rintro j f5 H2 Ni hj eO e2 ⟨rfl,qX⟩;have v1:f5 1=.ref 0 0:=(by rw[eO 1 rfl];simp only[zB,seval];exact u1);have v3:f5 3=.int .i64 i:=(by rw[eO 3 rfl];simp only[zB,seval];exact e1);have k2':t.pv=.bB 0 1 (MZ t.ps):=hpr.bB (i:=j) (by rw[Tc];exact hj);have hgj:(MZ t.ps).getD j []=[t.ps[j].1]:=(by simp[MZ,hj]);have SU:=Uq _ (Ac hj);have j6:=List.qR hj qX
     have Xd:(!decide ((t.ps[j].2.length:Int)>10))=false->UW t=false:=fun h=>by rw[hT,Ej.2 ⟨_,Ac hj,by rw[h];decide⟩];rfl
     generalize t.ps[j]=q at *
     have lq:∀H:aA,dA (fun _=>q.1) H (.OD (.tmp 0))=some (.int .i64 q.2.length,H):=fun H=>by
      rcases SU with ⟨h1,h2⟩|h1
      . rw[h1,h2];rfl
      rw[h1];simp[dA,aU]
     simp only[dA] at lq;refine aL ?_;cases fV:decide ((q.2.length:Int)>10)
     . rw[fV] at j6;simp only[↓zP,zJ,seval,e2,v1,v3,g0,sJ,aB,dL,hi,hg,k2,k2',Tc,hj,hgj,lq,fV];exact⟨trivial,j6 rfl⟩
     rw[fV] at Xd;simp only[↓zP,zJ,seval,e2,v1,v3,g0,sJ,aB,dL,hi,hg,k2,k2',Tc,hj,hgj,lq,fV];refine Rx ?_;rw[eW (Xd rfl)];rfl
   rintro f5 H2 eO ⟨rfl,qX⟩;rw[Ay] at qX;refine Tx ?_;exact⟨trivial,fQ (by rw[hT,Ax.2 qX];rfl)⟩
 rintro f4 H1 hk ⟨rfl,bV⟩;rw[Ay] at bV;refine Tx ?_;apply hK;clear hK K;refine Tz ?_;refine Rx ?_;rw[xV bV];rfl
theorem aFa {l:List Int} {i:Nat} (hi:i<l.length):(iR l).getD i []=[.int .i64 l[i]]:=by simp[iR,hi]
theorem Sf (l:List Int):∀e∈iR l,bO e=true:=fun e he=>by obtain⟨w,_,rfl⟩:=Bj.1 he;rfl
theorem _root_.Go.Av.Own.y9 {H:aA} {sz:Nat} {v:AV} {aY:List (List AV)} (ho:Own H sz v aY) {id:Nat} {cs:List AV} {o:Bool} (h:H.get id=some (.cells cs o)):uD v≠some id:=fun e=>by
 rcases ho with ⟨rfl,_⟩|⟨k,rfl,_,hk⟩
 . cases e
 cases e;rw[h] at hk;cases hk
theorem _root_.Go.Av.qm.cells {H H':aA} {sz:Nat} {v:AV} {aY:List (List AV)} (hg:qm H H' v) (ho:Own H sz v aY) {id:Nat} {cs:List AV} {o:Bool} (dB:id<H.next) (h:H.get id=some (.cells cs o)):H'.get id=some (.cells cs o):=by rw[hg.get id (ho.y9 h) dB,h]
theorem _root_.Go.Av.tA.one {H:aA} {sz:Nat} {v:AV} {aY:List (List AV)} (h:tA H sz v aY):v.cells=[v]/\v.yP=false/\v.cells.length=1:=by rcases h.1 with ⟨rfl,_⟩|⟨k,rfl,_⟩<;>exact⟨rfl,rfl,rfl⟩
theorem fI.Uc {v:AV} {l:List Int} (h:fI v 1 (iR l)):v.free=true:=h.free (Sf _)
def W91:CW Tryz.f91:=⟨_,cX⟩
theorem bHw:Fi 91 W91:=cM Tryz.func91 W91
def W51:CW Tryz.f51:=⟨_,cX⟩
theorem bHf:Fi 51 W51:=cM Tryz.func51 W51
def W18:CW Tryz.f18:=⟨_,cX⟩
theorem bGl:Fi 18 W18:=cM Tryz.func18 W18
def W49:CW Tryz.f49:=⟨_,cX⟩
theorem bHd:Fi 49 W49:=cM Tryz.func49 W49
def W52:CW Tryz.f52:=⟨_,cX⟩
theorem bHg:Fi 52 W52:=cM Tryz.func52 W52
def W92:CW Tryz.f92:=⟨_,cX⟩
theorem bHx:Fi 92 W92:=cM Tryz.func92 W92
def W50:CW Tryz.f50:=⟨_,cX⟩
theorem bHe:Fi 50 W50:=cM Tryz.func50 W50
def W53:CW Tryz.f53:=⟨_,cX⟩
theorem bHh:Fi 53 W53:=cM Tryz.func53 W53
def W20:CW Tryz.f20:=⟨_,uJ⟩
theorem bGm:Fi 20 W20:=cM Tryz.func20 W20
def W10:CW Tryz.f10:=⟨_,cX⟩
theorem bGg:Fi 10 W10:=cM Tryz.func10 W10
def rH (z:Nat):List Nat:=if z<=127 then [z] else(z%128+128)::rH (z / 128)
termination_by z
def QA (n:Int):Nat:=if 0<=n then(2*n).toNat else(-2*n -1).toNat
theorem BP {n:Int} (h:JJ n):QA n<2^64:=by unfold JJ at h;unfold QA;split<;>omega
theorem Vv:∀(k z:Nat),z<128^(k+1)->(rH z).length<=k+1
 |0,z,h=>by rw[rH,if_pos (by omega)];simp
 |k+1,z,h=>by
  rw[rH];split
  . simp
  have :=Vv k (z / 128) (by rw[Ef] at h;omega);simp only[Aq];omega
theorem lZ {z:Nat} (h:z<2^64):(rH z).length<=10:=Vv 9 z (by omega)
theorem JG (z:Nat):rH z≠[]:=by rw[rH];split<;>simp
theorem wrap_u64 {x:Int} (h0:0<=x) (h1:x<2^64):IntKind.u64.wrap x=x:=by simp only[IntKind.wrap,IntKind.bits,IntKind.signed];simp;omega
theorem lo7 {m:Nat} (h:m<=127):IntKind.u8.wrap ↑m=((m:Nat):Int):=by simp only[IntKind.wrap,IntKind.bits,IntKind.signed];simp;omega
theorem sR {l:List Nat} (h:l≠[]):dI l≠[]:=by simpa [dI] using h
theorem b9 {n:Int} (hn:JJ n) (H:aA):Sg 91 [.int .i64 n] H (.ret (.bB (H.next+2) 1 (dI (rH (QA n))))) (H.alloc .tok):=by
 have hz:=BP hn;have JN:=hn;unfold JJ at JN;refine mD fG rfl (sR (JG _)) (kS _) (cY fit bHw (Ak rfl) ?_ (by rfl)) H;unfold W91;dsimp only;refine bQ ?_;refine Tz ?_;refine fD ?_;refine Ty ?_;refine bR ?_;refine aJ fun K hK=>?_
 have key:∀f:dE,f 3=.int .u64 (QA n)->K f [] ⟨0,.nil⟩:=by
  intro f f3;apply hK;clear hK K;refine bQ ?_;refine Tz ?_;refine bR ?_;refine aJ fun K hK=>?_;refine aL (iM [3,4] (fun m vs H=>∃(v:AV) (pre:List Nat),vs=[.int .u64 m,v]/\m<2^64/\Own H 1 v (dI pre)/\pre++rH m=rH (QA n)) (QA n) (by rfl) ?_ ?_)
  . exact⟨.aR,[],by simp only[sm,zB,seval,f3],hz,.nil _ _,by simp⟩
  rintro m f4 H1 hk ⟨v,pre,oP,fF,aEv,aSb⟩;simp only[zM] at oP;obtain⟨v3,v4⟩:=oP;have XY:=lZ hz;rw[<-aSb,Ba] at XY;by_cases LN:m≥128
  . have d1:=Aj (show(m:Int)≥128 by omega);have GG:rH m=(m%128+128)::rH (m / 128):=by rw[rH,if_neg (by omega)]
    have w1:IntKind.u8.wrap ((m:Int).tmod 128)=((m%128:Nat):Int):=by rw[Es (by omega),JH rfl];simp only[IntKind.bits];omega
    have w2:IntKind.u8.wrap (((m%128:Nat):Int)+128)=((m%128+128:Nat):Int):=by rw[JH rfl];simp only[IntKind.bits];omega
    have w3:IntKind.u64.wrap ((m:Int).tdiv 128)=((m / 128:Nat):Int):=by rw[Fz (by omega),JH rfl];simp only[IntKind.bits];omega
    have yY:∀l:List Nat,(dI l).length=l.length:=fZ;obtain⟨v',H',ha,e2,e3⟩:=aEv.append (bytes:=1) (ys:=dI [m%128+128]) (by rw[GG] at XY;simp only[fZ,Aq,Bm] at XY ⊢;omega);simp only[dI,Cd,Fp] at ha;refine bQ ?_;simp only[↓zP,zG,seval,v3,d1];refine bR ?_;refine aL ?_;refine bQ ?_;simp only[↓zP,zJ,seval,v3,v4,show ¬((128:Int)=0) by decide,w1,w2,eL,ha];refine bR ?_;simp only[↓zP,zJ,seval,v3,show ¬((128:Int)=0) by decide,w3];exact⟨m / 128,by omega,v',pre++[m%128+128],by simp only[seval],by omega,by rw[iD];exact e2,by rw[<-aSb,GG];simp⟩
  have d1:=Ag (show ¬(m:Int)≥128 by omega);have hle:m<=127:=by omega
  have GG:rH m=[m]:=by rw[rH,if_pos hle]
  obtain⟨v',H',ha,e2,e3⟩:=aEv.append (bytes:=1) (ys:=dI [m]) (by rw[GG] at XY;simp only[fZ,Aq,Bm] at XY ⊢;omega);simp only[dI,Cd,Fp] at ha;simp only[↓zP,zG,seval,v3,d1];apply hK;clear hK K;simp only[↓zP,zJ,seval,v3,v4,lo7 hle,eL,dI,ha];refine Rx ?_;refine⟨v',rfl,?_⟩;rw[<-aSb,GG];show Own H' 1 v' (dI (pre++[m]));rw[iD];exact e2
 by_cases aEr:n<0
 . have d1:=Aj aEr;have w1:IntKind.i64.wrap (-1 -n)= -1 -n:=wrap_i64 (by omega) (by omega);have w2:IntKind.u64.wrap (-1 -n)= -1 -n:=wrap_u64 (by omega) (by omega);have w3:IntKind.u64.wrap ((-1 -n)*2)=(-1 -n)*2:=wrap_u64 (by omega) (by omega)
   have w4:IntKind.u64.wrap ((-1 -n)*2+1)=(QA n:Int):=by rw[wrap_u64 (by omega) (by omega)];unfold QA;rw[if_neg (by omega)];omega
   simp only[↓zP,zJ,seval,d1,w1,w2,w3,w4];exact key _ zq
 have d1:=Ag aEr;have w2:IntKind.u64.wrap n=n:=wrap_u64 (by omega) (by omega)
 have w4:IntKind.u64.wrap (n*2)=(QA n:Int):=by rw[wrap_u64 (by omega) (by omega)];unfold QA;rw[if_pos (by omega)];omega
 simp only[↓zP,zJ,seval,d1,w2,w4];exact key _ zq
def eR (l:List Int):List Nat:=rH (QA l.length)++l.flatMap fun x=>rH (QA x)
theorem NU (l:List Int):eR l≠[]:=by unfold eR;intro h;exact JG _ (List.append_eq_nil_iff.1 h).1
theorem KH {α:Type} {l:List α} {i:Nat} (f:α->List Nat) (hi:i<l.length):(l.take (i+1)).flatMap f=(l.take i).flatMap f++f l[i]:=by rw[Ao,Ad hi,It];simp
theorem tL:∀{l:List Int},(∀x∈l,JJ x)->(l.flatMap fun x=>rH (QA x)).length<=10*l.length
 |[],_=>by simp
 |x::l,h=>by have h1:=tL (l:=l) fun y hy=>h y (Aw _ hy);have h2:=lZ (BP (h x Ar));rw[Fc,Ba,Aq];omega
theorem BS {n:Nat} (h:n<2^62):JJ (n:Int):=by unfold JJ;omega
theorem YL {v:AV} {l:List Int} (hv:fI v 1 (iR l)) (hr:∀x∈l,JJ x) (hl:l.length<2^33) (H:aA):Sg 51 [v] H (.ret (.bB (H.next+2) 1 (dI (eR l)))) (H.alloc .tok):=by
 refine mD fG (by simp only[bO,hv.Uc];rfl) (sR (NU _)) (kS _) (cY fit bHf (Ak rfl) ?_ (by rfl)) H;unfold W51;dsimp only;have lv:=hv.len;simp only[dA] at lv;rw[hU] at lv;have hn:=b9 (BS (n:=l.length) (by omega));refine bQ ?_;refine Tz ?_;refine fD ?_;simp only[↓zP,zJ,seval,lv];refine bZ (hn _) ?_;refine Ty ?_;refine bR ?_;refine aJ fun K hK=>?_;refine Tz ?_;refine bP [3] (fun i vs H'=>∃w,vs=[w]/\Own H' 1 w (dI (rH (QA l.length)++(l.take i).flatMap fun x=>rH (QA x)))) 0 l.length (Az _) (by omega) (by decide) ?_ ?_ ?_ ?_ ?_
 . exact zq
 . exact⟨_,by simp only[sm,zB,seval];rfl,by simp only[Fb,List.flatMap_nil,Ch];exact Own.fresh _ _ _⟩
 . rintro i f H1 h0 hi hk e1 _;have f0:f 0=v:=by rw[hk 0 rfl];rfl
   simp only[↓zP,zG,seval,e1,f0,lv];exact Zaf
 . rintro i f H1 h0 hi hk e1 ⟨w,oP,ho⟩;simp only[zM] at oP;have f0:f 0=.bB 0 1 (iR l):=(hk 0 rfl).trans (hv.bB (i:=i) (by rw[hU];exact hi));have hg:=aFa hi;have hx:=hr _ (Ac hi);have hc:=b9 hx;have Se:=lZ (BP hx);have vI:=tL (l:=l.take i) fun x hx=>hr x (Bz hx);rw[Db] at vI;have hnl:=lZ (BP (BS (n:=l.length) (by omega)));rw[KH _ hi,<-Eb,iD];generalize l[i]=x at *;refine aL ?_;simp only[↓zP,zJ,seval,e1,f0,oP,aB,hU,hi,hg];refine bZ (hc _) ?_;obtain⟨w',H',ha,e2,e3⟩:=(ho.alloc .tok).append (bytes:=1) (ys:=dI (rH (QA x))) (by simp only[fZ,Ba];omega);simp only[↓zP,zG,seval,cL,ha];exact⟨w',by simp only[seval],e2⟩
 rintro f H1 hk ⟨w,oP,ho⟩;simp only[zM] at oP;rw[Ay] at ho;refine Tx ?_;apply hK;clear hK K;simp only[↓zP,zG,seval,oP];refine⟨rfl,_,by simp only[↓zP,zR,seval];rfl,?_⟩;exact⟨w,rfl,ho⟩
def KE (n:Nat):List Bool:=List.replicate n false
def dh (n:Nat):List (List Int):=List.replicate n zV
def aBm (ts:List Th):List (List Int):=ts.map (·.store)
def qI (ts:List Th) (r u:Nat):Sc:=⟨.bB 0 1 (bE (KE ts.length)),YZ 7 (bD (aBm ts)),.bB 0 3 (bD (dh ts.length)),.bB 0 3 (bD (dh ts.length)),.bB 0 1 (bE (KE r)),.bB 0 1 (bE (KE u)),
 KE ts.length,aBm ts,dh ts.length,dh ts.length,KE r,KE u⟩
theorem rp {H H':aA} {sz bytes:Nat} {v v':AV} {aY ys:List (List AV)} (cP:ys≠[]) (ho:Own H sz v aY) (h:eB H sz bytes false v ys=some (v',H')):uD v'=some H.next:=by
 unfold eB at h;rw[if_neg (by simpa using cP)] at h
 rcases ho with ⟨rfl,_⟩|⟨k,rfl,_,hk⟩
 . simp only at h;split at h
   . cases h;rfl
   cases h
 simp only at h;split at h
 . rw[hk] at h;cases h;rfl
 cases h
def Dj (u v:AV):Prop:=∀k,uD u=some k->uD v≠some k
theorem Dj.symm {u v:AV} (h:Dj u v):Dj v u:=fun k h1 h2=>h k h2 h1
theorem Own.other {H H':aA} {sz:Nat} {v w:AV} {aY:List (List AV)} (hg:qm H H' v) (hw:tA H sz w aY) (hd:Dj w v):tA H' sz w aY:=by
 refine⟨?_,hw.2⟩
 rcases hw.1 with h|⟨k,rfl,hk,ht⟩
 . exact .inl h
 exact .inr ⟨k,rfl,by have :=hg.next;omega,by rw[hg.get k (hd k rfl) hk];exact ht⟩
theorem Dj.new {H:aA} {sz:Nat} {w v':AV} {aY:List (List AV)} (hw:tA H sz w aY) (h:uD v'=some H.next):Dj w v':=fun k h1 h2=>by have :=hw.1.aBs h1;rw[h] at h2;cases h2;omega
structure R4 (H:aA) (p q r t:Nat) (a b c d:AV) (ea eb ec ed:List (List AV)):Prop where
 oa:tA H p a ea
 ob:tA H q b eb
 oc:tA H r c ec
 od:tA H t d ed
 ab:Dj a b
 ac:Dj a c
 ad:Dj a d
 bc:Dj b c
 bd:Dj b d
 cd:Dj c d
theorem R4.s1 {H:aA} {p q r t:Nat} {a b c d:AV} {ea eb ec ed:List (List AV)} (h:R4 H p q r t a b c d ea eb ec ed):R4 H q p r t b a c d eb ea ec ed:=⟨h.ob,h.oa,h.oc,h.od,h.ab.symm,h.bc,h.bd,h.ac,h.ad,h.cd⟩
theorem R4.s2 {H:aA} {p q r t:Nat} {a b c d:AV} {ea eb ec ed:List (List AV)} (h:R4 H p q r t a b c d ea eb ec ed):R4 H r q p t c b a d ec eb ea ed:=⟨h.oc,h.ob,h.oa,h.od,h.bc.symm,h.ac.symm,h.cd,h.ab.symm,h.bd,h.ad⟩
theorem R4.s3 {H:aA} {p q r t:Nat} {a b c d:AV} {ea eb ec ed:List (List AV)} (h:R4 H p q r t a b c d ea eb ec ed):R4 H t q r p d b c a ed eb ec ea:=⟨h.od,h.ob,h.oc,h.oa,h.bd.symm,h.cd.symm,h.ad.symm,h.bc,h.ab.symm,h.ac.symm⟩
theorem R4.set {H:aA} {p q r t:Nat} {a b c d:AV} {ea eb ec ed:List (List AV)} (h:R4 H p q r t a b c d ea eb ec ed) {id:Nat} {cs:List AV} {o:Bool} (hg:H.get id=some (.cells cs o)) (ob:fC):R4 (H.set id ob) p q r t a b c d ea eb ec ed:=
 ⟨⟨h.oa.1.set id ob (h.oa.1.y9 hg),h.oa.2⟩,⟨h.ob.1.set id ob (h.ob.1.y9 hg),h.ob.2⟩,⟨h.oc.1.set id ob (h.oc.1.y9 hg),h.oc.2⟩,⟨h.od.1.set id ob (h.od.1.y9 hg),h.od.2⟩,h.ab,h.ac,h.ad,h.bc,h.bd,h.cd⟩
structure StP (HA:aA) (w:List AV) (H:aA) (a b c d:AV) (ea eb ec ed:List (List AV)):Prop where
 r:R4 H 1 7 3 3 a b c d ea eb ec ed
 g:H.get 4=some (.cells (a::b::c::d::w) false)
 j:∀j,j<4->H.get j=HA.get j
 n:5<=H.next
def sE (l:List Int):List Nat:=l.flatMap fun x=>rH (QA x)
theorem Vg {id off n:Nat} {cs:List AV} {o:Bool} {l:List Int} (hn:l.length=n) (hr:∀x∈l,JJ x) (hl:n<2^30) {H:aA} (dB:id<H.next) (hg:H.get id=some (.cells cs o)) (MI:∀i (h:i<l.length),off+i+1<=cs.length/\cs.getD (off+i) aC=.int .i64 l[i]):
 ∃v H',Over H H'/\Own H' 1 v (dI (sE l))/\(∀k,uD v=some k->H.next<=k)/\Sg 49 [.sl id 1 off n n] H (.ret v) H':=by
 subst hn
 suffices h:FC Tryz.prog gv W49.1.ntmps W49.1.body (fK [.sl id 1 off l.length l.length]) [] H (Lz W49.1.results fun o H'=>∃v,o=.ret v/\Over H H'/\Own H' 1 v (dI (sE l))/\∀k,uD v=some k->H.next<=k) by obtain⟨o,H',⟨v,rfl,hO,ho,ht⟩,hS⟩:=cY fit bHd (Ak rfl) h (by rfl);exact⟨v,H',hO,ho,ht,hS⟩
 unfold W49;dsimp only;refine bQ ?_;refine Tz ?_;refine fD ?_;refine Tz ?_;refine bR ?_;refine aJ fun K hK=>?_;refine Tz ?_;refine bP [3] (fun i vs H'=>∃w,vs=[w]/\Over H H'/\Own H' 1 w (dI (sE (l.take i)))/\∀k,uD w=some k->H.next<=k) 0 l.length (Az _) (by omega) (by decide) ?_ ?_ ?_ ?_ ?_
 . exact zq
 . exact⟨.aR,by simp only[sm,zB,seval],.refl H,.nil _ _,fun k h=>by cases h⟩
 . rintro i f H1 h0 hi hk e1 _;have f0:f 0=.sl id 1 off l.length l.length:=by rw[hk 0 rfl];rfl
   simp only[↓zP,zG,seval,e1,f0];exact Zaf
 . rintro i f H1 h0 hi hk e1 ⟨w,oP,hO,ho,rQ⟩;simp only[zM] at oP;have f0:f 0=.sl id 1 off l.length l.length:=by rw[hk 0 rfl];rfl
   obtain⟨hle,sH⟩:=MI i hi;have CZ:=(hO.same id dB).trans hg;have hx:=hr _ (Ac hi);have hc:=b9 hx;have Se:=lZ (BP hx);have vI:=tL (l:=l.take i) fun x hx=>hr x (Bz hx);rw[Db] at vI;have JM:sE (l.take (i+1))=sE (l.take i)++rH (QA l[i]):=KH _ hi;rw[JM,iD];have bIs:(sE (l.take i)).length<=10*i:=(by unfold sE;omega);generalize l[i]=x at *;refine aL ?_;simp only[↓zP,zJ,seval,e1,f0,oP,aB,hi,CZ,hle,sH];refine bZ (hc _) ?_;obtain⟨w',H',ha,e2,e3⟩:=(ho.alloc .tok).append (bytes:=1) (ys:=dI (rH (QA x))) (by simp only[fZ];omega);simp only[↓zP,zG,seval,cL,ha];have hO1:=hO.alloc .tok;refine⟨w',rfl,⟨Ce hO1.le e3.next,fun j hj=>?_⟩,e2,fun k hk=>?_⟩
   . rw[e3.get j (fun e=>by have :=rQ j e;omega) (Cj hj hO1.le)];exact hO1.same j hj
   rw[rp (sR (JG _)) (ho.alloc .tok) ha] at hk;cases hk;exact hO1.le
 rintro f H1 hk ⟨w,oP,hO,ho,rQ⟩;simp only[zM] at oP;rw[Ay] at ho;refine Tx ?_;apply hK;clear hK K;simp only[↓zP,zG,seval,oP];refine⟨rfl,_,by simp only[↓zP,zR,seval];rfl,?_⟩;exact⟨w,rfl,hO,ho,rQ⟩
theorem aEf {l:List Int} (h:l≠[]):sE l≠[]:=by
 cases l with
 |nil=>exact absurd rfl h
 |cons x l=>unfold sE;rw[Fc];intro e;exact JG _ (List.append_eq_nil_iff.1 e).1
theorem tl (a b:List Int):sE (a++b)=sE a++sE b:=It
theorem GY {l:List Int} (h:∀x∈l,JJ x):(sE l).length<=10*l.length:=tL h
theorem aAr {p:List Int} (h7:p.length=7) (hr:kX p) (H:aA):Sg 92 [.agg (iC p)] H (.ret (.bB (H.next+2) 1 (dI (sE p)))) (H.alloc .tok):=by
 refine mD fG (by simp only[bO,AV.free,jF];rfl) (sR (aEf (by intro e;rw[e] at h7;cases h7))) (kS _) (cY fit bHx (Ak rfl) ?_ (by rfl)) H;unfold W92;dsimp only;have hlen:(iC p).length=7:=by rw[cC,h7]
 refine bQ ?_;refine Ty ?_;refine bR ?_;generalize hX:(aA.mk 0 .nil).alloc _=HA;have g0:HA.get 0=some (.cells (iC p) false):=by subst hX;simp only[zI,seval]
 have gn:0<HA.next:=by subst hX;simp only[zI,seval]
 clear hX;have h3:(p.take 3).length=3:=by simp;omega
 have h4:(p.drop 3).length=4:=by simp;omega
 obtain⟨v,H2,hO,ho,rQ,hS⟩:=Vg (id:=0) (off:=0) (n:=3) (l:=p.take 3) h3 (fun x hx=>hr x (Bz hx)) (by decide) gn g0 (fun i h=>by
  refine⟨by omega,?_⟩
  rw[Cs,dV (by omega)];simp[List.getD,Ad (show i<p.length by omega)])
 have g2:=(hO.same 0 gn).trans g0;have gn2:0<H2.next:=Cj gn hO.le
 obtain⟨w,H3,hO2,ho2,bJc,hS2⟩:=Vg (id:=0) (off:=3) (n:=4) (l:=p.drop 3) h4 (fun x hx=>hr x (Dt hx)) (by decide) gn2 g2 (fun i h=>by
  refine⟨by omega,?_⟩
  rw[dV (by omega)];simp[List.getD,Ad (show 3+i<p.length by omega)])
 have sl1:=Yh (n:=3) (sz:=1) (off:=0) g0 (by decide) (by omega);have sl2:=Yh (n:=4) (sz:=1) (off:=3) g2 (by decide) (by omega);refine bY fun f dQ=>?_;have f1:f 1=.ref 0 0:=by subst dQ;simp only[zB,seval]
 clear dQ;refine bQ ?_;refine Dz ?_;simp only[↓zP,zJ,seval,zD,f1,dZ,sl1];apply iO (hS:=hS)
 . decide
 . exact ZaN
 . exact hO.le
 . intro x hx _;simp only[Am,Bg,Dd] at hx;subst hx;exact(hO.same 0 gn).symm
 simp only[↓zP,zJ,seval,zD,f1,dZ,sl2];refine⟨(hO.same 0 gn).symm,?_⟩;apply iO (hS:=hS2)
 . decide
 . exact ZaN
 . exact hO2.le
 . intro x hx _;simp only[Am,Bg,Dd] at hx
   rcases hx with rfl|rfl<;>exact(hO2.same 0 gn2).symm
 have e37:sE p=sE (p.take 3)++sE (p.drop 3):=by rw[<-tl,Ic]
 have hvt:∀k,uD v=some k->k<H2.next:=fun k hk=>ho.aBs hk
 have hov:Own H3 1 v (dI (sE (p.take 3))):=by
  rcases ho with h|⟨k,h1,h2,h3⟩
  . exact .inl h
  exact .inr ⟨k,h1,Cj h2 hO2.le,by rw[hO2.same k h2];exact h3⟩
 have l3:=GY (l:=p.take 3) fun x hx=>hr x (Bz hx);have l4:=GY (l:=p.drop 3) fun x hx=>hr x (Dt hx);rw[h3] at l3;rw[h4] at l4;obtain⟨v',H4,ha,ho4,WK⟩:=hov.append (bytes:=1) (ys:=dI (sE (p.drop 3))) (by simp only[fZ];omega)
 have WJ:cL H3 1 w=some (dI (sE (p.drop 3))):=by
  rcases ho2 with ⟨rfl,h⟩|⟨k,rfl,_⟩
  . rw[h];rfl
  rfl
 simp only[↓zP,zJ,seval,zD,WJ,ha];refine⟨WK.next,?_⟩;refine bR ?_;refine Tx ?_;refine Rx ?_;exact⟨v',rfl,by rw[e37,iD];exact ho4⟩
def GZ (l:List (List Int)):List Nat:=rH (QA l.length)++l.flatMap sE
theorem tp (l:List (List Int)):GZ l≠[]:=by unfold GZ;intro h;exact JG _ (List.append_eq_nil_iff.1 h).1
theorem KG:∀{l:List (List Int)},(∀p∈l,p.length=7/\kX p)->(l.flatMap sE).length<=70*l.length
 |[],_=>by simp
 |x::l,h=>by have h1:=KG (l:=l) fun y hy=>h y (Aw _ hy);obtain⟨h2,h3⟩:=h x Ar;have h4:=GY h3;rw[Fc,Ba,Aq];omega
theorem mj {v:AV} {l:List (List Int)} (hv:fI v 7 (bD l)) (hr:∀p∈l,p.length=7/\kX p) (hl:l.length<2^30) (H:aA):Sg 50 [v] H (.ret (.bB (H.next+2) 1 (dI (GZ l)))) (H.alloc .tok):=by
 refine mD fG (by simp only[bO,hv.free (bF _)];rfl) (sR (tp _)) (kS _) (cY fit bHe (Ak rfl) ?_ (by rfl)) H;unfold W50;dsimp only;have lv:=hv.len;simp only[dA] at lv;rw[aO] at lv;have hn:=b9 (BS (n:=l.length) (by omega));refine bQ ?_;refine Tz ?_;refine fD ?_;simp only[↓zP,zJ,seval,lv];refine bZ (hn _) ?_;refine Ty ?_;refine bR ?_;refine aJ fun K hK=>?_;refine Tz ?_;refine bP [3] (fun i vs H'=>∃w,vs=[w]/\Own H' 1 w (dI (rH (QA l.length)++(l.take i).flatMap sE))) 0 l.length (Az _) (by omega) (by decide) ?_ ?_ ?_ ?_ ?_
 . exact zq
 . exact⟨_,by simp only[sm,zB,seval];rfl,by simp only[Fb,List.flatMap_nil,Ch];exact Own.fresh _ _ _⟩
 . rintro i f H1 h0 hi hk e1 _;have f0:f 0=v:=by rw[hk 0 rfl];rfl
   simp only[↓zP,zG,seval,e1,f0,lv];exact Zaf
 . rintro i f H1 h0 hi hk e1 ⟨w,oP,ho⟩;simp only[zM] at oP;have f0:f 0=.bB 0 7 (bD l):=(hk 0 rfl).trans (hv.bB (i:=i) Zaz);have hg:=cD hi;obtain⟨h7,hx⟩:=hr _ (Ac hi);have hc:=aAr h7 hx;have Se:=GY hx;have vI:=KG (l:=l.take i) fun x hx=>hr x (Bz hx);rw[Db] at vI;have hnl:=lZ (BP (BS (n:=l.length) (by omega)));rw[KH _ hi,<-Eb,iD];have Ta:(iC l[i]).length=7:=by rw[cC,h7]
   generalize l[i]=x at *;refine aL ?_;simp only[↓zP,zJ,seval,e1,f0,oP,aB,aO,hi,hg,oL Ta];refine bZ (hc _) ?_;obtain⟨w',H',ha,e2,e3⟩:=(ho.alloc .tok).append (bytes:=1) (ys:=dI (sE x)) (by simp only[fZ,Ba];omega);simp only[↓zP,zG,seval,cL,ha];exact⟨w',by simp only[seval],e2⟩
 rintro f H1 hk ⟨w,oP,ho⟩;simp only[zM] at oP;rw[Ay] at ho;refine Tx ?_;apply hK;clear hK K;simp only[↓zP,zG,seval,oP];refine⟨rfl,_,by simp only[↓zP,zR,seval];rfl,?_⟩;exact⟨w,rfl,ho⟩
def UX (b:Bool):Int:=if b then 1 else 0
def fJ (l:List Bool):List Int:=l.map UX
theorem BW (l:List Bool):∀x∈fJ l,JJ x:=fun x hx=>by obtain⟨b,_,rfl⟩:=Bj.1 hx;cases b<;>exact⟨by decide,by decide⟩
theorem Kk {v:AV} {l:List Bool} (hv:fI v 1 (bE l)) (hl:l.length<2^30) (H:aA):Sg 52 [v] H (.ret (YZ 1 (iR (fJ l)))) H:=by
 refine eQ fit fG bHg (Ak rfl) (by simp only[bO,hv.free (gX _)];rfl) ?_ H;unfold W52;dsimp only;have lv:=hv.len;simp only[dA] at lv;rw[bT] at lv;refine bQ ?_;refine Tz ?_;refine fD ?_;refine Tz ?_;refine bR ?_;refine aJ fun K hK=>?_;refine Tz ?_;refine bP [3] (fun i vs H'=>∃w,vs=[w]/\tA H' 1 w (iR (fJ (l.take i)))) 0 l.length (Az _) (by omega) (by decide) ?_ ?_ ?_ ?_ ?_
 . exact zq
 . exact⟨.aR,by simp only[sm,zB,seval],.nil _ _⟩
 . rintro i f H1 h0 hi hk e1 _;have f0:f 0=v:=by rw[hk 0 rfl];rfl
   simp only[↓zP,zG,seval,e1,f0,lv];exact Zaf
 . rintro i f H1 h0 hi hk e1 ⟨w,oP,ho⟩;simp only[zM] at oP;have f0:f 0=.bB 0 1 (bE l):=(hk 0 rfl).trans (hv.bB (i:=i) (by rw[bT];exact hi));have hg:=qK hi;have rQ:fJ (l.take (i+1))=fJ (l.take i)++[UX l[i]]:=by unfold fJ;rw[Ao,Ad hi,Cx];rfl
   have hln:(fJ (l.take i)).length<=i:=(by simp[fJ];omega);rw[rQ,HT];generalize l[i]=b at *;obtain⟨w',H',ha,e2,e3⟩:=ho.append (bytes:=8) (e:=[.int .i64 (UX b)]) (by rw[hU];omega);refine aL ?_;cases b
   . rw[show UX false=0 from rfl] at ha;simp only[↓zP,zJ,seval,e1,f0,oP,aB,bT,hi,hg,eL,ha];exact⟨w',by simp only[seval],e2⟩
   rw[show UX true=1 from rfl] at ha;simp only[↓zP,zJ,seval,e1,f0,oP,aB,bT,hi,hg,eL,ha];exact⟨w',by simp only[seval],e2⟩
 rintro f H1 hk ⟨w,oP,ho⟩;simp only[zM] at oP;rw[Ay] at ho;refine Tx ?_;apply hK;clear hK K;simp only[↓zP,zG,seval,oP];refine⟨rfl,_,by simp only[↓zP,zR,seval];rfl,?_⟩;exact⟨w,0,rfl,fun nw=>ho.shut (tM (Sf _)) nw⟩
def Zw (l:List Int):AV:=if l=[] then .bB 1 1 [] else .bB 0 1 (iR l)
theorem UY:∀{l:List (List Int)},(∀w∈l,w.length=3)->l.flatten.length=3*l.length
 |[],_=>rfl
 |x::l,h=>by have h1:=UY (l:=l) fun y hy=>h y (Aw _ hy);have h2:=h x Ar;rw[Bp,Ba,Aq];omega
theorem Vh {v:AV} {l:List (List Int)} (hv:fI v 3 (bD l)) (h3:∀w∈l,w.length=3) (hl:l.length<2^30) (H:aA):Sg 53 [.aR,v] H (.ret (Zw l.flatten)) H:=by
 refine eQ fit fG bHh (Ak rfl) (by simp only[bO,AV.free,hv.free (bF _)];rfl) ?_ H;unfold W53;dsimp only;have lv:=hv.len;simp only[dA] at lv;rw[aO] at lv;refine bQ ?_;refine Tz ?_;refine bR ?_;have hap:∀H:aA,eB H 1 8 false (.bB 1 1 []) []=some (.bB 1 1 [],H):=fun _=>rfl;refine bQ ?_;simp only[↓zP,zJ,seval,cL,hap];refine bR ?_;refine aJ fun K hK=>?_;refine Tz ?_;refine bP [5] (fun i vs H'=>∃w,vs=[w]/\(((l.take i).flatten=[]/\w=.bB 1 1 [])\/((l.take i).flatten≠[]/\Own H' 1 w (iR (l.take i).flatten)))) 0 l.length (Az _) (by omega) (by decide) ?_ ?_ ?_ ?_ ?_
 . exact zq
 . exact⟨.bB 1 1 [],by simp only[sm,zB,seval],.inl ⟨rfl,rfl⟩⟩
 . rintro i f H1 h0 hi hk e1 _;have f1:f 1=v:=by rw[hk 1 rfl];rfl
   simp only[↓zP,zG,seval,e1,f1,lv];exact Zaf
 . rintro i f H1 h0 hi hk e1 ⟨w,oP,ho⟩;simp only[zM] at oP;have f1:f 1=.bB 0 3 (bD l):=(hk 1 rfl).trans (hv.bB (i:=i) Zaz);have hg:=cD hi;have hx3:=h3 _ (Ac hi);have vI:=UY (l:=l.take i) fun x hx=>h3 x (Bz hx);rw[Db] at vI;have rQ:(l.take (i+1)).flatten=(l.take i).flatten++l[i]:=by rw[Ao,Ad hi,Fm];simp
   rw[rQ];generalize l[i]=x at *;generalize (l.take i).flatten=o at *
   have DS:∀H:aA,mI H 3 1 (.pl (iC x)) none none none=some (.bB 1 1 (iR x)):=fun H=>by
    match x,hx3 with
    |[a,b,c],_=>rfl
   have cP:o++x≠[]:=fun e=>by rw[(List.append_eq_nil_iff.1 e).2] at hx3;cases hx3
   have Se:(iR x).length=3:=by rw[hU,hx3]
   have fQ:∃w' H2,eB H1 1 8 false w (iR x)=some (w',H2)/\Own H2 1 w' (iR (o++x)):=by
    rcases ho with ⟨h,rfl⟩|⟨_,ho⟩
    . refine⟨.bB (H1.next+2) 1 (iR x),H1.alloc .tok,?_,by rw[h];exact Own.fresh _ _ _⟩;unfold eB;rw[if_neg (by intro e;rw[List.isEmpty_iff] at e;rw[e] at Se;cases Se)];simp only[Bm,Cs,Se];rw[if_pos ⟨trivial,by decide⟩];rfl
    obtain⟨w',H2,ha,e2,_⟩:=ho.append (bytes:=8) (ys:=iR x) (by rw[Se,hU];omega);exact⟨w',H2,ha,by rw[HT];exact e2⟩
   obtain⟨w',H2,ha,e2⟩:=fQ;refine aL ?_;simp only[↓zP,zJ,seval,e1,f1,oP,aB,aO,hi,hg,dZ,DS,cL,ha];exact⟨w',by simp only[seval],.inr ⟨cP,e2⟩⟩
 rintro f H1 hk ⟨w,oP,ho⟩;simp only[zM] at oP;rw[Ay] at ho;refine Tx ?_;apply hK;clear hK K;simp only[↓zP,zG,seval,oP];refine⟨rfl,_,by simp only[↓zP,zR,seval];rfl,?_⟩;refine⟨w,0,rfl,fun nw=>?_⟩;unfold Zw
 rcases ho with ⟨h,rfl⟩|⟨h,ho⟩
 . rw[if_pos h];rfl
 rw[if_neg h];have cP:iR l.flatten≠[]:=fun e=>h (Ir.1 e);refine Has.shut (.inr ho) cP (fun e=>?_) (tM (Sf _)) nw
 rcases ho with ⟨h1,h2⟩|⟨k,h1,_⟩
 . exact cP h2
 rw[h1] at e;cases e
end Go.Proofs.YtgggiembljfnhaaGreatDoor
