/-
  Part of the proof of statement 12
-/
import Derived.Test.YtgggiembljfnhaaGreatDoorB25
import Derived.Test.YtgggiembljfnhaaGreatDoorB07
set_option linter.unusedVariables false
set_option linter.unusedSimpArgs false
set_option maxRecDepth 100000
set_option maxHeartbeats 16000000
namespace Go.Proofs.YtgggiembljfnhaaGreatDoor
open Go Go.Av
attribute [local congr] aT aI aL aH aX aQ aM aF aY
attribute [local irreducible] FC bS eF
def fU (H:aA) (lo hi:Nat) (a b c d e f:AV) (s:Sc):Prop:=∃n1 n2 n3 n4 n5,Lq H lo n1 a 1 (bE s.st)/\Lq H n1 n2 b 7 (aZ s.ps)/\Lq H n2 n3 c 3 (aZ s.vs)/\Lq H n3 n4 d 3 (aZ s.ws)/\Lq H n4 n5 e 1 (bE s.ta)/\Lq H n5 hi f 1 (bE s.ac)/\lo<=n1/\n1<=n2/\n2<=n3/\n3<=n4/\n4<=n5/\n5<=hi
theorem Lq.one {H:aA} {lo hi:Nat} {v:AV} {sz:Nat} {bB:List (List AV)} (h:Lq H lo hi v sz bB):v.cells=[v]/\v.yN=false:=by rcases h with ⟨_,rfl|rfl⟩|⟨id,rfl,_⟩<;>exact⟨rfl,rfl⟩
def ClP (f:FuncId) (v:AV) (sz:Nat) (bB:List (List AV)) (H:aA) (v':AV) (H':aA):Prop:=Sg f [v] H (.ret v') H'/\Lq H' H.next H'.next v' sz bB/\H.next<=H'.next/\∀j,j<H.next->H'.get j=H.get j
theorem QT {f:FuncId} {v:AV} {sz:Nat} {bB:List (List AV)} (hv:fO v sz bB) (h:∀H,Sg f [v] H (.ret (clV H v sz bB)) (gl H bB)) (H:aA):∃v' H',ClP f v sz bB H v' H':=
 ⟨_,_,h H,aIt hv,UJ _ _,fun j hj=>ZH _ _ hj⟩
theorem im {s:Sc} (hs:s.OK) (H:aA):
 ∃a b c d e f H',Sg 33 [.agg s.cs] H (.ret (.agg [a,b,c,d,e,f])) H'/\fU H' H.next H'.next a b c d e f s/\H.next<=H'.next/\∀j,j<H.next->H'.get j=H.get j:=by
 obtain⟨H0,uz⟩:∃H0:aA,H0=(H.alloc (.cells s.cs false)).alloc (.cells [.aO,.aO,.aO,.aO,.aO,.aO] false):=⟨_,rfl⟩;have n0:H0.next=H.next+2:=by subst uz;simp only[aA.aR]
 have g0:H0.get H.next=some (.cells s.cs false):=by subst uz;rw[aA.aG,if_neg Zaf,aA.aG,if_pos rfl]
 have t0:H0.get (H.next+1)=some (.cells [.aO,.aO,.aO,.aO,.aO,.aO] false):=by subst uz;rw[aA.aG,if_pos Zbo]
 have k0:∀j,j<H.next->H0.get j=H.get j:=fun j hj=>by subst uz;rw[aA.aG,if_neg Zaf,aA.aG,if_neg (by omega)]
 have bl:∀l:List Bool,l.length<2^30->(bE l).length<2^30:=fun l h=>by rw[bZ];exact h
 have rl:∀l:List (List Int),l.length<2^30->(aZ l).length<2^30:=fun l h=>by rw[aS];exact h
 have c0:=True.intro;obtain⟨a,H1,c1,r1,n1,k1⟩:=QT hs.st (SE hs.st (bl _ hs.bD)) H0;obtain⟨b,H2,c2,r2,n2,k2⟩:=QT hs.ps (aEi hs.ps (rl _ hs.lps)) H1;obtain⟨c,H3,c3,r3,n3,k3⟩:=QT hs.vs (ZI hs.vs (rl _ hs.zc)) H2;obtain⟨d,H4,c4,r4,n4,k4⟩:=QT hs.ws (ZI hs.ws (rl _ hs.zd)) H3;obtain⟨e,H5,c5,r5,n5,k5⟩:=QT hs.ta (SE hs.ta (bl _ hs.lta)) H4;obtain⟨f,H6,c6,r6,n6,k6⟩:=QT hs.ac (SE hs.ac (bl _ hs.lac)) H5;have q1:H1.get H.next=some (.cells s.cs false):=(k1 _ (by omega)).trans g0;have q2:H2.get H.next=some (.cells s.cs false):=(k2 _ (by omega)).trans q1;have q3:H3.get H.next=some (.cells s.cs false):=(k3 _ (by omega)).trans q2;have q4:H4.get H.next=some (.cells s.cs false):=(k4 _ (by omega)).trans q3;have q5:H5.get H.next=some (.cells s.cs false):=(k5 _ (by omega)).trans q4
 have t6:H6.get (H.next+1)=some (.cells [.aO,.aO,.aO,.aO,.aO,.aO] false):=by rw[k6 _ (by omega),k5 _ (by omega),k4 _ (by omega),k3 _ (by omega),k2 _ (by omega),k1 _ (by omega)];exact t0
 have hc:∀i,i<6->s.cs.getD i aD=[s.sv,s.pv,s.vv,s.wv,s.tv,s.av].getD i aD:=fun _ _=>rfl;refine⟨a,b,c,d,e,f,H6.set (H.next+1) (.cells [a,b,c,d,e,f] false),gH bBy (Ai rfl) ?_ (by rfl),?_,?_,?_⟩
 . unfold W33;dsimp only;refine bQ ?_;refine Ty ?_;refine bR ?_;rw[<-uz];refine bQ ?_;refine Dz ?_;simp only[↓zP,zJ,seval,zD,g0,Sc.cs];apply iQ (hS:=c1)
   . decide
   . exact ZaN
   . exact n1
   . intro x hx _;simp only[Am,Bj,Df] at hx
     rcases hx with rfl<;>exact(k1 _ (by omega)).symm
   simp only[↓zP,zJ,seval,zD,g0,q1,Sc.cs];apply iQ (hS:=c2)
   . decide
   . exact ZaN
   . exact n2
   . intro x hx _;simp only[Am,Bj,Df] at hx
     rcases hx with rfl|rfl<;>exact(k2 _ (by omega)).symm
   simp only[↓zP,zJ,seval,zD,g0,q1,q2,Sc.cs];apply iQ (hS:=c3)
   . decide
   . exact ZaN
   . exact n3
   . intro x hx _;simp only[Am,Bj,Df] at hx
     rcases hx with rfl|rfl|rfl<;>exact(k3 _ (by omega)).symm
   simp only[↓zP,zJ,seval,zD,g0,q1,q2,q3,Sc.cs];apply iQ (hS:=c4)
   . decide
   . exact ZaN
   . exact n4
   . intro x hx _;simp only[Am,Bj,Df] at hx
     rcases hx with rfl|rfl|rfl|rfl<;>exact(k4 _ (by omega)).symm
   simp only[↓zP,zJ,seval,zD,g0,q1,q2,q3,q4,Sc.cs];apply iQ (hS:=c5)
   . decide
   . exact ZaN
   . exact n5
   . intro x hx _;simp only[Am,Bj,Df] at hx
     rcases hx with rfl|rfl|rfl|rfl|rfl<;>exact(k5 _ (by omega)).symm
   simp only[↓zP,zJ,seval,zD,g0,q1,q2,q3,q4,q5,Sc.cs];apply iQ (hS:=c6)
   . decide
   . exact ZaN
   . exact n6
   . intro x hx _;simp only[Am,Bj,Df] at hx
     rcases hx with rfl|rfl|rfl|rfl|rfl|rfl<;>exact(k6 _ (by omega)).symm
   obtain⟨a1,a2⟩:=r1.one;obtain⟨b1,b2⟩:=r2.one;obtain⟨d1,d2⟩:=r3.one;obtain⟨e1,e2⟩:=r4.one;obtain⟨i1,i2⟩:=r5.one;obtain⟨j1,j2⟩:=r6.one;simp only[↓zP,zJ,seval,zD,a1,a2,b1,b2,d1,d2,e1,e2,i1,i2,j1,j2,t6];refine bR ?_;refine Tx ?_;refine Rx ?_;exact ZaR
 . have st:∀j,H0.next<=j->(H6.set (H.next+1) (.cells [a,b,c,d,e,f] false)).get j=H6.get j:=fun j hj=>by rw[aA.aC,if_neg (by omega)]
   exact Zad
 . exact Za7
 intro j hj;rw[aA.aC,if_neg (by omega),k6 _ (by omega),k5 _ (by omega),k4 _ (by omega),k3 _ (by omega),k2 _ (by omega),k1 _ (by omega),k0 _ hj]
def yS (st:List Bool) (n:Int):Bool:=n==0||st.getD (n -1).toNat false
theorem nN:∀l:List Bool,(bE l).flatten=l.map AV.bool
 |[]=>rfl
 |b::l=>by have :=nN l;simp only[bE,Cb,Bl,List.singleton_append] at this ⊢;rw[this]
theorem xA {H:aA} {p lo hi:Nat} {a b c d e f:AV} {o:Bool} {s:Sc} {n:Int} (hp:H.get p=some (.cells [a,b,c,d,e,f] o)) (hm:fU H lo hi a b c d e f s) (h0:0<=n) (hn:n<=s.st.length) (hl:s.st.length<2^30):
 Sg 76 [.ref p 0,.int .i64 n] H (.ret (.bool (yS s.st n))) H:=by
 refine gH bCy (Ai rfl) ?_ (by rfl);unfold W76;dsimp only;obtain⟨n1,n2,n3,n4,n5,r1,r2,r3,r4,r5,r6,_⟩:=hm;by_cases hz:n=0
 . subst hz;refine Ty ?_;refine Rx ?_;exact ZaR
 have hi:(n -1).toNat<(bE s.st).length:=by rw[bZ];omega
 obtain⟨id,rfl,_,_,hg⟩:=r1.at hi;have hb:(n==0)=false:=Bq.2 hz;obtain⟨k,hk⟩:∃k:Nat,n -1=k:=⟨(n -1).toNat,by omega⟩;have hw:IntKind.i64.wrap (n -1)=(k:Int):=by rw[wrap_i64 (by omega) (by omega),hk]
 have tQ:k<s.st.length:=by rw[bZ] at hi;omega
 have hv:yS s.st n=s.st[k]:=by unfold yS;rw[hb,hk];simp[tQ]
 have sL:(s.st.map AV.bool).getD k aD=.bool s.st[k]:=by simp[tQ]
 have DP:k+1<=s.st.length:=tQ;rw[nN] at hg;simp only[↓zP,zJ,seval,hb,hp,hg,hw,aB,bZ,tQ,DP,Af,sL];refine Rx ?_;rw[hv];exact ZaR
theorem Lq.put {H H':aA} {lo hi id:Nat} {v:AV} {sz:Nat} {bB els':List (List AV)} (h:Lq H lo hi v sz bB) (hv:v=.sl id sz 0 bB.length bB.length) (hl:els'.length=bB.length) (hg:H'.get id=some (.cells els'.flatten true)) (gQ:lo<=id/\id<hi):Lq H' lo hi v sz els':=
 .inr ⟨id,by rw[hv,hl],gQ.1,gQ.2,hg⟩
theorem fU.st {H:aA} {lo hi:Nat} {a b c d e f:AV} {s:Sc} (hm:fU H lo hi a b c d e f s) {k:Nat} (hk:k<s.st.length):
 ∃id,a=.sl id 1 0 s.st.length s.st.length/\lo<=id/\id<hi/\H.get id=some (.cells (bE s.st).flatten true)/\∀(H':aA) (x:Bool),H'.get id=some (.cells (bE (s.st.set k x)).flatten true)->(∀j,lo<=j->j<hi->j≠id->H'.get j=H.get j)->fU H' lo hi a b c d e f {s with st:=s.st.set k x}:=by
 obtain⟨n1,n2,n3,n4,n5,r1,r2,r3,r4,r5,r6,o1,o2,o3,o4,o5,o6⟩:=hm;obtain⟨id,rfl,i1,i2,hg⟩:=r1.at (i:=k) (by simp only[bE,Af];exact hk);exact⟨id,by simp only[bE,Af],by omega,by omega,hg,fun H' x h1 h2=>⟨n1,n2,n3,n4,n5,r1.put rfl (by simp only[bE,Af,Bx]) h1 ⟨i1,i2⟩,r2.dH (Ab _) (Ab _) fun j g1 g2=>h2 j (by omega) (by omega) (by omega),r3.dH (Ab _) (Ab _) fun j g1 g2=>h2 j (by omega) (by omega) (by omega),r4.dH (Ab _) (Ab _) fun j g1 g2=>h2 j (by omega) (by omega) (by omega),r5.dH (Ab _) (Ab _) fun j g1 g2=>h2 j (by omega) (by omega) (by omega),r6.dH (Ab _) (Ab _) fun j g1 g2=>h2 j (by omega) (by omega) (by omega),o1,o2,o3,o4,o5,o6⟩⟩
theorem fU.ps {H:aA} {lo hi:Nat} {a b c d e f:AV} {s:Sc} (hm:fU H lo hi a b c d e f s) {k:Nat} (hk:k<s.ps.length):
 ∃id,b=.sl id 7 0 s.ps.length s.ps.length/\lo<=id/\id<hi/\H.get id=some (.cells (aZ s.ps).flatten true)/\∀(H':aA) (x:List Int),H'.get id=some (.cells (aZ (s.ps.set k x)).flatten true)->(∀j,lo<=j->j<hi->j≠id->H'.get j=H.get j)->fU H' lo hi a b c d e f {s with ps:=s.ps.set k x}:=by
 obtain⟨n1,n2,n3,n4,n5,r1,r2,r3,r4,r5,r6,o1,o2,o3,o4,o5,o6⟩:=hm;obtain⟨id,rfl,i1,i2,hg⟩:=r2.at (i:=k) (by simp only[aZ,Af];exact hk);exact⟨id,by simp only[aZ,Af],by omega,by omega,hg,fun H' x h1 h2=>⟨n1,n2,n3,n4,n5,r1.dH (Ab _) (Ab _) fun j g1 g2=>h2 j (by omega) (by omega) (by omega),r2.put rfl (by simp only[aZ,Af,Bx]) h1 ⟨i1,i2⟩,r3.dH (Ab _) (Ab _) fun j g1 g2=>h2 j (by omega) (by omega) (by omega),r4.dH (Ab _) (Ab _) fun j g1 g2=>h2 j (by omega) (by omega) (by omega),r5.dH (Ab _) (Ab _) fun j g1 g2=>h2 j (by omega) (by omega) (by omega),r6.dH (Ab _) (Ab _) fun j g1 g2=>h2 j (by omega) (by omega) (by omega),o1,o2,o3,o4,o5,o6⟩⟩
theorem fU.vs {H:aA} {lo hi:Nat} {a b c d e f:AV} {s:Sc} (hm:fU H lo hi a b c d e f s) {k:Nat} (hk:k<s.vs.length):
 ∃id,c=.sl id 3 0 s.vs.length s.vs.length/\lo<=id/\id<hi/\H.get id=some (.cells (aZ s.vs).flatten true)/\∀(H':aA) (x:List Int),H'.get id=some (.cells (aZ (s.vs.set k x)).flatten true)->(∀j,lo<=j->j<hi->j≠id->H'.get j=H.get j)->fU H' lo hi a b c d e f {s with vs:=s.vs.set k x}:=by
 obtain⟨n1,n2,n3,n4,n5,r1,r2,r3,r4,r5,r6,o1,o2,o3,o4,o5,o6⟩:=hm;obtain⟨id,rfl,i1,i2,hg⟩:=r3.at (i:=k) (by simp only[aZ,Af];exact hk);exact⟨id,by simp only[aZ,Af],by omega,by omega,hg,fun H' x h1 h2=>⟨n1,n2,n3,n4,n5,r1.dH (Ab _) (Ab _) fun j g1 g2=>h2 j (by omega) (by omega) (by omega),r2.dH (Ab _) (Ab _) fun j g1 g2=>h2 j (by omega) (by omega) (by omega),r3.put rfl (by simp only[aZ,Af,Bx]) h1 ⟨i1,i2⟩,r4.dH (Ab _) (Ab _) fun j g1 g2=>h2 j (by omega) (by omega) (by omega),r5.dH (Ab _) (Ab _) fun j g1 g2=>h2 j (by omega) (by omega) (by omega),r6.dH (Ab _) (Ab _) fun j g1 g2=>h2 j (by omega) (by omega) (by omega),o1,o2,o3,o4,o5,o6⟩⟩
theorem fU.ws {H:aA} {lo hi:Nat} {a b c d e f:AV} {s:Sc} (hm:fU H lo hi a b c d e f s) {k:Nat} (hk:k<s.ws.length):
 ∃id,d=.sl id 3 0 s.ws.length s.ws.length/\lo<=id/\id<hi/\H.get id=some (.cells (aZ s.ws).flatten true)/\∀(H':aA) (x:List Int),H'.get id=some (.cells (aZ (s.ws.set k x)).flatten true)->(∀j,lo<=j->j<hi->j≠id->H'.get j=H.get j)->fU H' lo hi a b c d e f {s with ws:=s.ws.set k x}:=by
 obtain⟨n1,n2,n3,n4,n5,r1,r2,r3,r4,r5,r6,o1,o2,o3,o4,o5,o6⟩:=hm;obtain⟨id,rfl,i1,i2,hg⟩:=r4.at (i:=k) (by simp only[aZ,Af];exact hk);exact⟨id,by simp only[aZ,Af],by omega,by omega,hg,fun H' x h1 h2=>⟨n1,n2,n3,n4,n5,r1.dH (Ab _) (Ab _) fun j g1 g2=>h2 j (by omega) (by omega) (by omega),r2.dH (Ab _) (Ab _) fun j g1 g2=>h2 j (by omega) (by omega) (by omega),r3.dH (Ab _) (Ab _) fun j g1 g2=>h2 j (by omega) (by omega) (by omega),r4.put rfl (by simp only[aZ,Af,Bx]) h1 ⟨i1,i2⟩,r5.dH (Ab _) (Ab _) fun j g1 g2=>h2 j (by omega) (by omega) (by omega),r6.dH (Ab _) (Ab _) fun j g1 g2=>h2 j (by omega) (by omega) (by omega),o1,o2,o3,o4,o5,o6⟩⟩
theorem fU.ta {H:aA} {lo hi:Nat} {a b c d e f:AV} {s:Sc} (hm:fU H lo hi a b c d e f s) {k:Nat} (hk:k<s.ta.length):
 ∃id,e=.sl id 1 0 s.ta.length s.ta.length/\lo<=id/\id<hi/\H.get id=some (.cells (bE s.ta).flatten true)/\∀(H':aA) (x:Bool),H'.get id=some (.cells (bE (s.ta.set k x)).flatten true)->(∀j,lo<=j->j<hi->j≠id->H'.get j=H.get j)->fU H' lo hi a b c d e f {s with ta:=s.ta.set k x}:=by
 obtain⟨n1,n2,n3,n4,n5,r1,r2,r3,r4,r5,r6,o1,o2,o3,o4,o5,o6⟩:=hm;obtain⟨id,rfl,i1,i2,hg⟩:=r5.at (i:=k) (by simp only[bE,Af];exact hk);exact⟨id,by simp only[bE,Af],by omega,by omega,hg,fun H' x h1 h2=>⟨n1,n2,n3,n4,n5,r1.dH (Ab _) (Ab _) fun j g1 g2=>h2 j (by omega) (by omega) (by omega),r2.dH (Ab _) (Ab _) fun j g1 g2=>h2 j (by omega) (by omega) (by omega),r3.dH (Ab _) (Ab _) fun j g1 g2=>h2 j (by omega) (by omega) (by omega),r4.dH (Ab _) (Ab _) fun j g1 g2=>h2 j (by omega) (by omega) (by omega),r5.put rfl (by simp only[bE,Af,Bx]) h1 ⟨i1,i2⟩,r6.dH (Ab _) (Ab _) fun j g1 g2=>h2 j (by omega) (by omega) (by omega),o1,o2,o3,o4,o5,o6⟩⟩
theorem fU.ac {H:aA} {lo hi:Nat} {a b c d e f:AV} {s:Sc} (hm:fU H lo hi a b c d e f s) {k:Nat} (hk:k<s.ac.length):
 ∃id,f=.sl id 1 0 s.ac.length s.ac.length/\lo<=id/\id<hi/\H.get id=some (.cells (bE s.ac).flatten true)/\∀(H':aA) (x:Bool),H'.get id=some (.cells (bE (s.ac.set k x)).flatten true)->(∀j,lo<=j->j<hi->j≠id->H'.get j=H.get j)->fU H' lo hi a b c d e f {s with ac:=s.ac.set k x}:=by
 obtain⟨n1,n2,n3,n4,n5,r1,r2,r3,r4,r5,r6,o1,o2,o3,o4,o5,o6⟩:=hm;obtain⟨id,rfl,i1,i2,hg⟩:=r6.at (i:=k) (by simp only[bE,Af];exact hk);exact⟨id,by simp only[bE,Af],by omega,by omega,hg,fun H' x h1 h2=>⟨n1,n2,n3,n4,n5,r1.dH (Ab _) (Ab _) fun j g1 g2=>h2 j (by omega) (by omega) (by omega),r2.dH (Ab _) (Ab _) fun j g1 g2=>h2 j (by omega) (by omega) (by omega),r3.dH (Ab _) (Ab _) fun j g1 g2=>h2 j (by omega) (by omega) (by omega),r4.dH (Ab _) (Ab _) fun j g1 g2=>h2 j (by omega) (by omega) (by omega),r5.dH (Ab _) (Ab _) fun j g1 g2=>h2 j (by omega) (by omega) (by omega),r6.put rfl (by simp only[bE,Af,Bx]) h1 ⟨i1,i2⟩,o1,o2,o3,o4,o5,o6⟩⟩
def W78:CW Tryz.f78:=⟨_,cX⟩
theorem bIf:Fi 78 W78:=cM Tryz.func78 W78
def W80:CW Tryz.f80:=⟨_,cX⟩
theorem bIh:Fi 80 W80:=cM Tryz.func80 W80
def W81:CW Tryz.f81:=⟨_,vF⟩
theorem bIi:Fi 81 W81:=cM Tryz.func81 W81
def W82:CW Tryz.f82:=⟨_,cX⟩
theorem bIj:Fi 82 W82:=cM Tryz.func82 W82
def wU (ta:List Bool) (rs:List (List Int)) (n:Int) (k:Nat):Bool:=ta.getD k false&&((rs.getD k []).getD 0 0==n||(rs.getD k []).getD 1 0==n)
def wS (ac:List Bool) (us:List (List Int)) (n:Int) (k:Nat):Bool:=ac.getD k false&&(us.getD k []).getD 0 0==n
def mP (s:Sc) (rs us:List (List Int)) (n:Int):Bool:=(List.range rs.length).any (wU s.ta rs n)||(List.range us.length).any (wS s.ac us n)
theorem aIg {g r0 r1:Int} {ts:List Th} {rs us:List (List Int)} {tv rv uv:AV} (mK:fO tv 14 (nD ts)) (mF:fO rv 8 (aZ rs)) (nF:fO uv 10 (aZ us)) (hr:∀r∈rs,r.length=8) (hu:∀p∈us,p.length=10)
 {H:aA} {p lo hi:Nat} {a b c d e f:AV} {o:Bool} {s:Sc} {n:Int} (hp:H.get p=some (.cells [a,b,c,d,e,f] o)) (hm:fU H lo hi a b c d e f s) (nS:p<H.next) (Lt:hi<=H.next)
 (hta:s.ta.length=rs.length) (hac:s.ac.length=us.length) (CV:rs.length<2^30) (Zs:us.length<2^30):
 ∃H',Sg 78 [.agg (yC g r0 r1 tv rv uv),.ref p 0,.int .i64 n] H (.ret (.bool (mP s rs us n))) H'/\H.next<=H'.next/\∀j,j<H.next->H'.get j=H.get j:=by
 obtain⟨_,H',⟨rfl,hq⟩,hS⟩:=cZ (R:=fun o H'=>o=.ret (.bool (mP s rs us n))/\H.next<=H'.next/\∀j,j<H.next->H'.get j=H.get j) fit bIf (args:=[.agg (yC g r0 r1 tv rv uv),.ref p 0,.int .i64 n]) (H:=H) (Ai rfl) (by
  unfold W78;dsimp only;have lr:=mF.len;have lu:=nF.len;simp only[dA] at lr lu;rw[aS] at lr lu;have l6:(yC g r0 r1 tv rv uv).length=6:=rfl;refine bQ ?_;simp only[↓zP,zJ,seval,yC];refine bR ?_;generalize hX:H.alloc _=HA;have gy:HA.get H.next=some (.cells [.int .i64 g,.int .i64 r0,.int .i64 r1,tv,rv,uv] false):=by subst hX;rw[aA.aG,if_pos rfl]
  have gn:H.next+1<=HA.next:=by subst hX;simp only[aA.aR];omega
  have gk:∀j,j<H.next->HA.get j=H.get j:=fun j hj=>by subst hX;rw[aA.aG,if_neg (by omega)]
  clear hX;refine bV fun f0 dQ=>?_;have v1:f0 1=.ref p 0:=by subst dQ;exact rfl
  have v2:f0 2=.int .i64 n:=by subst dQ;exact rfl
  have v3:f0 3=.ref H.next 0:=by subst dQ;simp only[zB,seval]
  clear dQ;refine aN fun K hK=>?_;refine bQ ?_;simp only[↓zP,zJ,seval,v3,gy,lr];refine bR ?_;refine cV [] (fun i vs H'=>H'.get H.next=some (.cells [.int .i64 g,.int .i64 r0,.int .i64 r1,tv,rv,uv] false)/\H.next+1<=H'.next/\(∀j,j<H.next->H'.get j=H.get j)/\∀k,k<i->wU s.ta rs n k=false) rs.length (by omega) (by decide) ?_ ?_ ?_ ?_ ?_
  . exact zq
  . exact zq
  . exact⟨gy,gn,gk,fun k hk=>absurd hk (Ap _)⟩
  . rintro i f4 H1 gQ hk x1 ⟨m0,mn,mk,bU⟩;have u1:f4 1=.ref p 0:=by rw[hk 1 rfl];simp only[zB,seval];exact v1
    have u2:f4 2=.int .i64 n:=(by rw[hk 2 rfl];simp only[zB,seval];exact v2);have Pn:rv=.bD 0 8 (aZ rs):=mF.bD (i:=i) (by rw[aS];exact gQ);have u12:f4 12=.bD 0 8 (aZ rs):=(by rw[hk 12 rfl];simp only[zB,seval];exact Pn);have hg:=cN gQ;have h8:=hr _ (Ac gQ);have hpp:=(mk p nS).trans hp;obtain⟨n1,n2,n3,n4,n5,_,_,_,_,r5,_,ob1,ob2,ob3,ob4,ob5,ob6⟩:=hm;have jQ:i<s.ta.length:=(by omega);obtain⟨id,rfl,il,ih,EX⟩:=r5.at (i:=i) (by rw[bZ];exact jQ);rw[nN] at EX;have aSj:=(mk id (by omega)).trans EX;have KI:wU s.ta rs n i=(s.ta[i]&&(rs[i].getD 0 0==n||rs[i].getD 1 0==n)):=by unfold wU;simp[jQ,gQ]
    have gV:wU s.ta rs n i=false->∀k,k<i+1->wU s.ta rs n k=false:=fun h k hk=>by
     exact ZaW
    have xR:wU s.ta rs n i=true->mP s rs us n=true:=fun h=>by unfold mP;rw[Bz.2 ⟨i,Ay.2 gQ,h⟩];rfl
    rw[KI] at gV xR;have sL:(s.ta.map AV.bool).getD i aD=.bool s.ta[i]:=(by simp[jQ]);have DP:i+1<=s.ta.length:=jQ;generalize s.ta[i]=tb at *;generalize rs[i]=r at *;have sE:(iC r).length=8:=(by rw[cD,h8]);have a0:=eJ (l:=r) (i:=0) (by omega);have a1:=eJ (l:=r) (i:=1) (by omega);refine aJ ?_;refine bQ ?_;simp only[↓zP,zJ,seval,x1,u12,aB,aS,gQ,hg,oL sE];refine bR ?_;generalize hX:(H1.alloc _).set H1.next _=H3;have CE:∀j,j<H1.next->H3.get j=H1.get j:=fun j hj=>by subst hX;rw[aA.aC,if_neg (by omega),aA.aG,if_neg (by omega)]
    have y8:H3.get H1.next=some (.cells (iC r) false):=Zai;have yn:H.next+1<=H3.next:=Zat;have y0:=(CE _ (by omega)).trans m0;have yp:=(CE _ (by omega)).trans hpp;have yi:=(CE id (by omega)).trans aSj;have yk:∀j,j<H.next->H3.get j=H.get j:=fun j hj=>(CE j (by omega)).trans (mk j hj);clear hX CE;generalize H1.next=r8 at *;generalize hx:r.getD 0 0=x at *;generalize hz:r.getD 1 0=z at *;generalize eQ:(x==n)=b1 at *;generalize gJ:(z==n)=b2 at *;cases tb
    . simp only[↓zP,zJ,seval,u1,yp,aB,bZ,jQ,DP,yi,sL,Af,gU];exact⟨y0,yn,yk,gV rfl⟩
    cases b1;rotate_left
    . simp only[↓zP,zJ,seval,u1,u2,yp,aB,bZ,jQ,DP,yi,sL,Af,y8,sE,a0,eQ];refine Rx ?_;exact⟨by rw[xR rfl];rfl,by omega,yk⟩
    cases b2
    . simp only[↓zP,zJ,seval,u1,u2,yp,aB,bZ,jQ,DP,yi,sL,Af,y8,sE,a0,a1,eQ,gJ];exact⟨y0,yn,yk,gV rfl⟩
    simp only[↓zP,zJ,seval,u1,u2,yp,aB,bZ,jQ,DP,yi,sL,Af,y8,sE,a0,a1,eQ,gJ];refine Rx ?_;exact⟨by rw[xR rfl];rfl,by omega,yk⟩
  rintro f2 H2 hk ⟨m0,mn,mk,ve⟩;have w1:f2 1=.ref p 0:=by rw[hk 1 rfl];simp only[zB,seval];exact v1
  have w2:f2 2=.int .i64 n:=by rw[hk 2 rfl];simp only[zB,seval];exact v2
  have w3:f2 3=.ref H.next 0:=by rw[hk 3 rfl];simp only[zB,seval];exact v3
  clear hk;apply hK;clear hK K;refine aN fun K hK=>?_;refine bQ ?_;simp only[↓zP,zJ,seval,w3,m0,lu];refine bR ?_;refine cV [] (fun i vs H'=>H'.get H.next=some (.cells [.int .i64 g,.int .i64 r0,.int .i64 r1,tv,rv,uv] false)/\H.next+1<=H'.next/\(∀j,j<H.next->H'.get j=H.get j)/\∀k,k<i->wS s.ac us n k=false) us.length (by omega) (by decide) ?_ ?_ ?_ ?_ ?_
  . exact zq
  . exact zq
  . exact⟨m0,mn,mk,fun k hk=>absurd hk (Ap _)⟩
  . rintro i f4 H1 gQ hk x1 ⟨m0,mn,mk,bU⟩;have u1:f4 1=.ref p 0:=by rw[hk 1 rfl];simp only[zB,seval];exact w1
    have u2:f4 2=.int .i64 n:=(by rw[hk 2 rfl];simp only[zB,seval];exact w2);have Pn:uv=.bD 0 10 (aZ us):=nF.bD (i:=i) (by rw[aS];exact gQ);have u40:f4 40=.bD 0 10 (aZ us):=(by rw[hk 40 rfl];simp only[zB,seval];exact Pn);have hg:=cN gQ;have h8:=hu _ (Ac gQ);have hpp:=(mk p nS).trans hp;obtain⟨n1,n2,n3,n4,n5,_,_,_,_,_,r6,ob1,ob2,ob3,ob4,ob5,ob6⟩:=hm;have jQ:i<s.ac.length:=(by omega);obtain⟨id,rfl,il,ih,EX⟩:=r6.at (i:=i) (by rw[bZ];exact jQ);rw[nN] at EX;have aSj:=(mk id (by omega)).trans EX;have KI:wS s.ac us n i=(s.ac[i]&&us[i].getD 0 0==n):=by unfold wS;simp[jQ,gQ]
    have gV:wS s.ac us n i=false->∀k,k<i+1->wS s.ac us n k=false:=fun h k hk=>by
     exact ZaW
    have xR:wS s.ac us n i=true->mP s rs us n=true:=fun h=>by unfold mP;rw[Bz.2 ⟨i,Ay.2 gQ,h⟩,Gf]
    rw[KI] at gV xR;have sL:(s.ac.map AV.bool).getD i aD=.bool s.ac[i]:=(by simp[jQ]);have DP:i+1<=s.ac.length:=jQ;generalize s.ac[i]=tb at *;generalize us[i]=r at *;have sE:(iC r).length=10:=(by rw[cD,h8]);have a0:=eJ (l:=r) (i:=0) (by omega);refine aJ ?_;refine bQ ?_;simp only[↓zP,zJ,seval,x1,u40,aB,aS,gQ,hg,oL sE];refine bR ?_;generalize hX:(H1.alloc _).set H1.next _=H3;have CE:∀j,j<H1.next->H3.get j=H1.get j:=fun j hj=>by subst hX;rw[aA.aC,if_neg (by omega),aA.aG,if_neg (by omega)]
    have y8:H3.get H1.next=some (.cells (iC r) false):=Zai;have yn:H.next+1<=H3.next:=Zat;have y0:=(CE _ (by omega)).trans m0;have yp:=(CE _ (by omega)).trans hpp;have yi:=(CE id (by omega)).trans aSj;have yk:∀j,j<H.next->H3.get j=H.get j:=fun j hj=>(CE j (by omega)).trans (mk j hj);clear hX CE;generalize H1.next=r8 at *;generalize hx:r.getD 0 0=x at *;generalize eQ:(x==n)=b1 at *;cases tb
    . simp only[↓zP,zJ,seval,u1,yp,aB,bZ,jQ,DP,yi,sL,Af];exact⟨y0,yn,yk,gV rfl⟩
    cases b1
    . simp only[↓zP,zJ,seval,u1,u2,yp,aB,bZ,jQ,DP,yi,sL,Af,y8,sE,a0,eQ];exact⟨y0,yn,yk,gV rfl⟩
    simp only[↓zP,zJ,seval,u1,u2,yp,aB,bZ,jQ,DP,yi,sL,Af,y8,sE,a0,eQ];refine Rx ?_;exact⟨by rw[xR rfl];rfl,by omega,yk⟩
  rintro f2 H2 hk ⟨m0,mn,mk,bU⟩
  have fS:mP s rs us n=false:=by unfold mP;rw[Cy,Da,Da];exact⟨fun k hk=>by rw[ve k (Ay.1 hk)];decide,fun k hk=>by rw[bU k (Ay.1 hk)];decide⟩
  apply hK;clear hK K;refine Tz ?_;refine Rx ?_
  exact⟨by rw[fS];rfl,by omega,mk⟩)
 exact⟨H',hS,hq⟩
structure dr (H H':aA) (lo hi:Nat) (a b c d e f:AV) (s:Sc):Prop where
 next:H.next<=H'.next
 CE:∀j,j<H.next->¬(lo<=j/\j<hi)->H'.get j=H.get j
 mem:fU H' lo hi a b c d e f s
theorem aRm {g r0 r1:Int} {tv rv uv pv:AV} {k:Int} {n:Nat}
 {H:aA} {p lo hi:Nat} {a b c d e f:AV} {o:Bool} {s:Sc} (hp:H.get p=some (.cells [a,b,c,d,e,f] o)) (hm:fU H lo hi a b c d e f s) (nS:p<H.next) (Lt:hi<=H.next) (hn:n<s.ta.length):
 ∃H',Sg 80 [.agg (yC g r0 r1 tv rv uv),.ref p 0,.agg (oC k n pv)] H (.ret (.int .i64 (if s.ta[n] then 0 else 4))) H'/\dr H H' lo hi a b c d e f (if s.ta[n] then {s with ta:=s.ta.set n false} else s):=by
 obtain⟨id,rfl,i1,i2,hg,oF⟩:=hm.ta hn;rw[nN] at hg;have sL:(s.ta.map AV.bool).getD n aD=.bool s.ta[n]:=by simp[hn]
 have DP:n+1<=s.ta.length:=hn;generalize s.ta[n]=tb at *
 obtain⟨_,H',⟨rfl,hq⟩,hS⟩:=cZ (R:=fun o H'=>o=.ret (.int .i64 (if tb then 0 else 4))/\dr H H' lo hi a b c d (.sl id 1 0 s.ta.length s.ta.length) f (if tb then {s with ta:=s.ta.set n false} else s)) fit bIh (args:=[.agg (yC g r0 r1 tv rv uv),.ref p 0,.agg (oC k n pv)]) (H:=H) (Ai rfl) (by
  unfold W80;dsimp only;refine bQ ?_;simp only[↓zP,zJ,seval,yC,oC];refine bR ?_;generalize hX:(H.alloc _).alloc _=HA;have go:HA.get (H.next+1)=some (.cells [.int .i64 k,.int .i64 n,pv] false):=by subst hX;rw[aA.aG,if_pos Zbo]
  have gn:HA.next=H.next+2:=by subst hX;simp only[aA.aR]
  have gk:∀j,j<H.next->HA.get j=H.get j:=fun j hj=>by subst hX;rw[aA.aG,if_neg Zaf,aA.aG,if_neg (by omega)]
  clear hX;have gp:=(gk p nS).trans hp;have gi:=(gk id (by omega)).trans hg;refine bV fun f0 dQ=>?_;have v1:f0 1=.ref p 0:=by subst dQ;exact rfl
  have v5:f0 5=.ref (H.next+1) 0:=by subst dQ;simp only[zB,seval]
  have v6:f0 6=.int .i64 0:=by subst dQ;simp only[zB,seval]
  clear dQ;refine aN fun K hK=>?_;refine bQ ?_;refine Dz ?_;simp only[↓zP,zJ,seval,zD,v1,v5,gp,go,aB,hn,gi,DP,sL,Af];refine bR ?_;cases tb
  . refine Ty ?_;refine Rx ?_
    exact⟨rfl,by omega,fun j hj _=>gk j hj,by
     obtain⟨n1,n2,n3,n4,n5,r1,r2,r3,r4,r5,r6,h⟩:=hm
     exact⟨n1,n2,n3,n4,n5,r1.dH (Ab _) (Ab _) fun j g1 g2=>gk j (by omega),r2.dH (Ab _) (Ab _) fun j g1 g2=>gk j (by omega),r3.dH (Ab _) (Ab _) fun j g1 g2=>gk j (by omega),r4.dH (Ab _) (Ab _) fun j g1 g2=>gk j (by omega),r5.dH (Ab _) (Ab _) fun j g1 g2=>gk j (by omega),r6.dH (Ab _) (Ab _) fun j g1 g2=>gk j (by omega),h⟩⟩
  refine Ty ?_;apply hK;clear hK K;refine bQ ?_;refine Dz ?_;simp only[↓zP,zJ,seval,zD,v1,v5,gp,go,aB,hn,gi,DP,Af];refine bR ?_;refine Tz ?_;refine Rx ?_
  exact⟨rfl,by rw[aA.aW];omega,fun j hj hx=>by rw[aA.aC,if_neg (by omega)];exact gk j hj,oF _ false ZaO fun j h1 h2 h3=>by rw[aA.aC,if_neg (by omega)];exact gk j (by omega)⟩)
 exact⟨H',hS,hq⟩
theorem fU.dH {H H':aA} {lo hi:Nat} {a b c d e f:AV} {s:Sc} (hm:fU H lo hi a b c d e f s) (hk:∀j,j<hi->H'.get j=H.get j):fU H' lo hi a b c d e f s:=by obtain⟨n1,n2,n3,n4,n5,r1,r2,r3,r4,r5,r6,h⟩:=hm;exact⟨n1,n2,n3,n4,n5,r1.dH (Ab _) (Ab _) fun j g1 g2=>hk j (by omega),r2.dH (Ab _) (Ab _) fun j g1 g2=>hk j (by omega),r3.dH (Ab _) (Ab _) fun j g1 g2=>hk j (by omega),r4.dH (Ab _) (Ab _) fun j g1 g2=>hk j (by omega),r5.dH (Ab _) (Ab _) fun j g1 g2=>hk j (by omega),r6.dH (Ab _) (Ab _) fun j g1 g2=>hk j (by omega),h⟩
def PE (s:Sc) (r:List Int) (n:Nat):Bool:=s.ta.getD n false||(!yS s.st (r.getD 0 0)|| !yS s.st (r.getD 1 0))
theorem aUk {g r0 r1:Int} {rs:List (List Int)} {tv rv uv pv:AV} {k:Int} {n:Nat} (mF:fO rv 8 (aZ rs)) (hr:∀r∈rs,r.length=8)
 {H:aA} {p lo hi:Nat} {a b c d e f:AV} {o:Bool} {s:Sc} (hp:H.get p=some (.cells [a,b,c,d,e,f] o)) (hm:fU H lo hi a b c d e f s) (nS:p<H.next) (Lt:hi<=H.next) (hn:n<s.ta.length) (xk:n<rs.length)
 (hl:s.st.length<2^30) (ha:0<=rs[n].getD 0 0/\rs[n].getD 0 0<=s.st.length) (hb:0<=rs[n].getD 1 0/\rs[n].getD 1 0<=s.st.length):
 ∃H',Sg 79 [.agg (yC g r0 r1 tv rv uv),.ref p 0,.agg (oC k n pv)] H (.ret (.int .i64 (if PE s rs[n] n then 4 else 0))) H'/\dr H H' lo hi a b c d e f (if PE s rs[n] n then s else {s with ta:=s.ta.set n true}):=by
 have MR:=hm;have CV:rv=.bD 0 8 (aZ rs):=mF.bD (i:=n) (by rw[aS];exact xk);subst CV;have Qu:=cN xk;have h8:=hr _ (Ac xk);generalize j6:rs[n]=r at *;obtain⟨id,rfl,i1,i2,hg,oF⟩:=hm.ta hn;rw[nN] at hg;have sL:(s.ta.map AV.bool).getD n aD=.bool s.ta[n]:=by simp[hn]
 have KI:PE s r n=(s.ta[n]||(!yS s.st (r.getD 0 0)|| !yS s.st (r.getD 1 0))):=by unfold PE;simp[hn]
 have DP:n+1<=s.ta.length:=hn;rw[KI];clear KI;generalize s.ta[n]=tb at *;have sE:(iC r).length=8:=by rw[cD,h8]
 have a0:=eJ (l:=r) (i:=0) (by omega);have a1:=eJ (l:=r) (i:=1) (by omega);generalize r.getD 0 0=x at *;generalize r.getD 1 0=z at *;generalize hB:(tb||(!yS s.st x|| !yS s.st z))=B at *
 obtain⟨_,H',⟨rfl,hq⟩,hS⟩:=cZ (R:=fun o H'=>o=.ret (.int .i64 (if B then 4 else 0))/\dr H H' lo hi a b c d (.sl id 1 0 s.ta.length s.ta.length) f (if B then s else {s with ta:=s.ta.set n true})) fit bDa (args:=[.agg (yC g r0 r1 tv (.bD 0 8 (aZ rs)) uv),.ref p 0,.agg (oC k n pv)]) (H:=H) (Ai rfl) (by
  unfold W79;dsimp only;refine bQ ?_;simp only[↓zP,zJ,seval,yC,oC];refine bR ?_;generalize hX:(H.alloc _).alloc _=HA;have gy:HA.get H.next=some (.cells [.int .i64 g,.int .i64 r0,.int .i64 r1,tv,.bD 0 8 (aZ rs),uv] false):=by subst hX;rw[aA.aG,if_neg Zaf,aA.aG,if_pos rfl]
  have go:HA.get (H.next+1)=some (.cells [.int .i64 k,.int .i64 n,pv] false):=by subst hX;rw[aA.aG,if_pos Zbo]
  have gn:HA.next=H.next+2:=by subst hX;simp only[aA.aR]
  have gk:∀j,j<H.next->HA.get j=H.get j:=fun j hj=>by subst hX;rw[aA.aG,if_neg Zaf,aA.aG,if_neg (by omega)]
  clear hX;refine bV fun f0 dQ=>?_;have v1:f0 1=.ref p 0:=by subst dQ;exact rfl
  have v3:f0 3=.ref H.next 0:=by subst dQ;simp only[zB,seval]
  have v5:f0 5=.ref (H.next+1) 0:=by subst dQ;simp only[zB,seval]
  have v6:f0 6=.int .i64 0:=by subst dQ;simp only[zB,seval]
  clear dQ;refine bQ ?_;simp only[↓zP,zJ,seval,v3,v5,gy,go,aB,aS,xk,Qu,oL sE];refine bR ?_;generalize hX:(HA.alloc _).set HA.next _=HB;have b8:HB.get HA.next=some (.cells (iC r) false):=by subst hX;rw[aA.aC,if_pos rfl]
  have bn:HB.next=H.next+3:=by subst hX;simp only[aA.aW,aA.aR];omega
  have bk:∀j,j<HA.next->HB.get j=HA.get j:=fun j hj=>by subst hX;rw[aA.aC,if_neg (by omega),aA.aG,if_neg (by omega)]
  clear hX;have bo:=(bk _ (by omega)).trans go;have bH:∀j,j<H.next->HB.get j=H.get j:=fun j hj=>(bk j (by omega)).trans (gk j hj);have gp:=(bH p nS).trans hp;have gi:=(bH id (by omega)).trans hg;have mB:=MR.dH (H':=HB) fun j hj=>bH j (by omega);have S1:=xA gp mB ha.1 ha.2 hl;have S2:=xA gp mB hb.1 hb.2 hl;generalize HA.next=r8 at *;generalize yS s.st x=bx at *;generalize yS s.st z=bz at *;refine bV fun f0 dQ=>?_;have v1:=Ks dQ v1;have v5:=Ks dQ v5;have v6:=Ks dQ v6;have v7:f0 7=.ref r8 0:=by subst dQ;simp only[zB,seval]
  clear dQ;refine aN fun K hK=>?_;refine aN fun K2 bW=>?_;refine Dz ?_
  have key:∀f:dE,f 1=.ref p 0->f 5=.ref (H.next+1) 0->f 6=.int .i64 0->f 35=.bool B->K2 f [] HB:=by
   intro f v1 v5 v6 v35;apply bW;clear bW K2;cases B
   . simp only[↓zP,zG,seval,v35];apply hK;clear hK K;refine bQ ?_;refine Dz ?_;simp only[↓zP,zJ,seval,zD,v1,v5,gp,bo,aB,hn,gi,DP,Af];refine bR ?_;refine Tz ?_;refine Rx ?_;exact⟨rfl,by rw[aA.aW];omega,fun j hj hx=>by rw[aA.aC,if_neg (by omega)];exact bH j hj,oF _ true ZaO fun j h1 h2 h3=>by rw[aA.aC,if_neg (by omega)];exact bH j (by omega)⟩
   simp only[↓zP,zG,seval,v35];refine Rx ?_;exact⟨rfl,by omega,fun j hj _=>bH j hj,mB⟩
  clear bW hK;cases tb
  . simp only[↓zP,zJ,seval,zD,v1,v5,v7,gp,bo,b8,aB,hn,gi,DP,sL,Af,sE,a0];refine fP (S1) ?_;cases bx
    . exact Zar
    simp only[↓zP,zJ,seval,zD,v1,v7,b8,sE,a1];refine fP (S2) ?_;exact Zar
  simp only[↓zP,zJ,seval,zD,v1,v5,gp,bo,aB,hn,gi,DP,sL,Af]
  exact key _ (by simp only[zB,seval];exact v1) (by simp only[zB,seval];exact v5) (by simp only[zB,seval];exact v6) (by simp only[zB,seval];rw[<-hB];rfl))
 exact⟨H',hS,hq⟩
def Mx (s:Sc) (r:List Int) (n:Nat):Bool:=s.ac.getD n false|| !yS s.st (r.getD 0 0)
theorem aRi {g r0 r1:Int} {rs:List (List Int)} {tv rv uv pv:AV} {k:Int} {n:Nat} (nF:fO uv 10 (aZ rs)) (hr:∀r∈rs,r.length=10)
 {H:aA} {p lo hi:Nat} {a b c d e f:AV} {o:Bool} {s:Sc} (hp:H.get p=some (.cells [a,b,c,d,e,f] o)) (hm:fU H lo hi a b c d e f s) (nS:p<H.next) (Lt:hi<=H.next) (hn:n<s.ac.length) (xk:n<rs.length)
 (hl:s.st.length<2^30) (ha:0<=rs[n].getD 0 0/\rs[n].getD 0 0<=s.st.length):
 ∃H',Sg 81 [.agg (yC g r0 r1 tv rv uv),.ref p 0,.agg (oC k n pv)] H (.ret (.int .i64 (if Mx s rs[n] n then 4 else 0))) H'/\dr H H' lo hi a b c d e f (if Mx s rs[n] n then s else {s with ac:=s.ac.set n true}):=by
 have MR:=hm;have CV:uv=.bD 0 10 (aZ rs):=nF.bD (i:=n) (by rw[aS];exact xk);subst CV;have Qu:=cN xk;have h10:=hr _ (Ac xk);generalize j6:rs[n]=r at *;obtain⟨id,rfl,i1,i2,hg,oF⟩:=hm.ac hn;rw[nN] at hg;have sL:(s.ac.map AV.bool).getD n aD=.bool s.ac[n]:=by simp[hn]
 have KI:Mx s r n=(s.ac[n]|| !yS s.st (r.getD 0 0)):=by unfold Mx;simp[hn]
 have DP:n+1<=s.ac.length:=hn;rw[KI];clear KI;generalize s.ac[n]=tb at *;have Xb:(iC r).length=10:=by rw[cD,h10]
 have a0:=eJ (l:=r) (i:=0) (by omega);generalize r.getD 0 0=x at *;generalize hB:(tb|| !yS s.st x)=B at *
 obtain⟨_,H',⟨rfl,hq⟩,hS⟩:=cZ (R:=fun o H'=>o=.ret (.int .i64 (if B then 4 else 0))/\dr H H' lo hi a b c d e (.sl id 1 0 s.ac.length s.ac.length) (if B then s else {s with ac:=s.ac.set n true})) fit bIi (args:=[.agg (yC g r0 r1 tv rv (.bD 0 10 (aZ rs))),.ref p 0,.agg (oC k n pv)]) (H:=H) (Ai rfl) (by
  unfold W81;dsimp only;refine bQ ?_;simp only[↓zP,zJ,seval,yC,oC];refine bR ?_;generalize hX:(H.alloc _).alloc _=HA;have gy:HA.get H.next=some (.cells [.int .i64 g,.int .i64 r0,.int .i64 r1,tv,rv,.bD 0 10 (aZ rs)] false):=by subst hX;rw[aA.aG,if_neg Zaf,aA.aG,if_pos rfl]
  have go:HA.get (H.next+1)=some (.cells [.int .i64 k,.int .i64 n,pv] false):=by subst hX;rw[aA.aG,if_pos Zbo]
  have gn:HA.next=H.next+2:=by subst hX;simp only[aA.aR]
  have gk:∀j,j<H.next->HA.get j=H.get j:=fun j hj=>by subst hX;rw[aA.aG,if_neg Zaf,aA.aG,if_neg (by omega)]
  clear hX;refine bV fun f0 dQ=>?_;have v1:f0 1=.ref p 0:=by subst dQ;exact rfl
  have v3:f0 3=.ref H.next 0:=by subst dQ;simp only[zB,seval]
  have v5:f0 5=.ref (H.next+1) 0:=by subst dQ;simp only[zB,seval]
  have v6:f0 6=.int .i64 0:=by subst dQ;simp only[zB,seval]
  clear dQ;have gp:=(gk p nS).trans hp;have gi:=(gk id (by omega)).trans hg;have mB:=MR.dH (H':=HA) fun j hj=>gk j (by omega);have S1:=xA gp mB ha.1 ha.2 hl;generalize yS s.st x=bx at *;refine aN fun K hK=>?_;refine aN fun K2 bW=>?_;refine Dz ?_
  have key:∀f:dE,f 1=.ref p 0->f 5=.ref (H.next+1) 0->f 6=.int .i64 0->f 26=.bool B->K2 f [] HA:=by
   intro f v1 v5 v6 v26;apply bW;clear bW K2;cases B
   . simp only[↓zP,zG,seval,v26];apply hK;clear hK K;refine bQ ?_;refine Dz ?_;simp only[↓zP,zJ,seval,zD,v1,v5,gp,go,aB,hn,gi,DP,Af];refine bR ?_;refine Tz ?_;refine Rx ?_;exact⟨rfl,by rw[aA.aW];omega,fun j hj hx=>by rw[aA.aC,if_neg (by omega)];exact gk j hj,oF _ true ZaO fun j h1 h2 h3=>by rw[aA.aC,if_neg (by omega)];exact gk j (by omega)⟩
   simp only[↓zP,zG,seval,v26];exact ZaP
  clear bW hK;cases tb
  . simp only[↓zP,zJ,seval,zD,v1,v3,v5,gp,go,gy,aB,hn,xk,Qu,aS,gi,DP,sL,Af,Xb,a0];refine fP (S1) ?_;exact Zar
  simp only[↓zP,zJ,seval,zD,v1,v5,gp,go,aB,hn,gi,DP,sL,Af]
  exact key _ (by simp only[zB,seval];exact v1) (by simp only[zB,seval];exact v5) (by simp only[zB,seval];exact v6) (by simp only[zB,seval];rw[<-hB];rfl))
 exact⟨H',hS,hq⟩
theorem aFa {g r0 r1:Int} {tv rv uv pv:AV} {k:Int} {n:Nat}
 {H:aA} {p lo hi:Nat} {a b c d e f:AV} {o:Bool} {s:Sc} (hp:H.get p=some (.cells [a,b,c,d,e,f] o)) (hm:fU H lo hi a b c d e f s) (nS:p<H.next) (Lt:hi<=H.next) (hn:n<s.ac.length):
 ∃H',Sg 82 [.agg (yC g r0 r1 tv rv uv),.ref p 0,.agg (oC k n pv)] H (.ret (.int .i64 (if s.ac[n] then 0 else 4))) H'/\dr H H' lo hi a b c d e f (if s.ac[n] then {s with ac:=s.ac.set n false} else s):=by
 obtain⟨id,rfl,i1,i2,hg,oF⟩:=hm.ac hn;rw[nN] at hg;have sL:(s.ac.map AV.bool).getD n aD=.bool s.ac[n]:=by simp[hn]
 have DP:n+1<=s.ac.length:=hn;generalize s.ac[n]=tb at *
 obtain⟨_,H',⟨rfl,hq⟩,hS⟩:=cZ (R:=fun o H'=>o=.ret (.int .i64 (if tb then 0 else 4))/\dr H H' lo hi a b c d e (.sl id 1 0 s.ac.length s.ac.length) (if tb then {s with ac:=s.ac.set n false} else s)) fit bIj (args:=[.agg (yC g r0 r1 tv rv uv),.ref p 0,.agg (oC k n pv)]) (H:=H) (Ai rfl) (by
  unfold W82;dsimp only;refine bQ ?_;simp only[↓zP,zJ,seval,yC,oC];refine bR ?_;generalize hX:(H.alloc _).alloc _=HA;have go:HA.get (H.next+1)=some (.cells [.int .i64 k,.int .i64 n,pv] false):=by subst hX;rw[aA.aG,if_pos Zbo]
  have gn:HA.next=H.next+2:=by subst hX;simp only[aA.aR]
  have gk:∀j,j<H.next->HA.get j=H.get j:=fun j hj=>by subst hX;rw[aA.aG,if_neg Zaf,aA.aG,if_neg (by omega)]
  clear hX;have gp:=(gk p nS).trans hp;have gi:=(gk id (by omega)).trans hg;refine bV fun f0 dQ=>?_;have v1:f0 1=.ref p 0:=by subst dQ;exact rfl
  have v5:f0 5=.ref (H.next+1) 0:=by subst dQ;simp only[zB,seval]
  have v6:f0 6=.int .i64 0:=by subst dQ;simp only[zB,seval]
  clear dQ;refine aN fun K hK=>?_;refine bQ ?_;refine Dz ?_;simp only[↓zP,zJ,seval,zD,v1,v5,gp,go,aB,hn,gi,DP,sL,Af];refine bR ?_;cases tb
  . refine Ty ?_;refine Rx ?_
    exact⟨rfl,by omega,fun j hj _=>gk j hj,by
     obtain⟨n1,n2,n3,n4,n5,r1,r2,r3,r4,r5,r6,h⟩:=hm
     exact⟨n1,n2,n3,n4,n5,r1.dH (Ab _) (Ab _) fun j g1 g2=>gk j (by omega),r2.dH (Ab _) (Ab _) fun j g1 g2=>gk j (by omega),r3.dH (Ab _) (Ab _) fun j g1 g2=>gk j (by omega),r4.dH (Ab _) (Ab _) fun j g1 g2=>gk j (by omega),r5.dH (Ab _) (Ab _) fun j g1 g2=>gk j (by omega),r6.dH (Ab _) (Ab _) fun j g1 g2=>gk j (by omega),h⟩⟩
  refine Ty ?_;apply hK;clear hK K;refine bQ ?_;refine Dz ?_;simp only[↓zP,zJ,seval,zD,v1,v5,gp,go,aB,hn,gi,DP,Af];refine bR ?_;refine Tz ?_;refine Rx ?_
  exact⟨rfl,by rw[aA.aW];omega,fun j hj hx=>by rw[aA.aC,if_neg (by omega)];exact gk j hj,oF _ false ZaO fun j h1 h2 h3=>by rw[aA.aC,if_neg (by omega)];exact gk j (by omega)⟩)
 exact⟨H',hS,hq⟩
theorem Nd {sz:Nat}:∀{bB:List (List AV)} {k:Nat} {x:List AV},(∀e∈bB,e.length=sz)->k<bB.length->x.length=sz->bB.flatten.take (k*sz)++x++bB.flatten.drop (k*sz+sz)=(bB.set k x).flatten
 |[],_,_,_,h,_=>absurd h (Ap _)
 |e::bB,0,x,hl,_,hx=>by have he:=hl e Ar;simp[<-he]
 |e::bB,k+1,x,hl,hk,hx=>by have he:=hl e Ar;have ih:=Nd (bB:=bB) (k:=k) (x:=x) (fun y hy=>hl y (Au _ hy)) (by simpa using hk) hx;rw[List.set_cons_succ,Bl,Bl,<-ih,show(k+1)*sz=e.length+k*sz by rw[Dw,he];omega,Br,List.take_length_add_append,Iy];simp only[Ek]
theorem gP {sz:Nat}:∀{bB:List (List AV)},(∀e∈bB,e.length=sz)->bB.flatten.length=bB.length*sz
 |[],_=>by simp
 |e::bB,h=>by rw[Bl,Ba,gP fun y hy=>h y (Au _ hy),h e Ar,As,Dw,Fa]
theorem lJ {l:List (List Int)} {sz:Nat} (h:∀r∈l,r.length=sz):∀e∈aZ l,e.length=sz:=fun e he=>by obtain⟨r,hr,rfl⟩:=Bf.1 he;rw[cD,h r hr]
theorem wW {l:List (List Int)} {sz k:Nat} {x:List Int} (h:∀r∈l,r.length=sz) (hk:k<l.length) (hx:x.length=sz):(aZ l).flatten.take (k*sz)++iC x++(aZ l).flatten.drop (k*sz+sz)=(aZ (l.set k x)).flatten:=by rw[Nd (lJ h) (by rw[aS];exact hk) (by rw[cD,hx])];unfold aZ;rw[Ib]
theorem jZ (l:List Bool):∀e∈bE l,e.length=1:=fun e he=>by obtain⟨r,hr,rfl⟩:=Bf.1 he;rfl
theorem sU {l:List Bool} {k:Nat} {x:Bool} (hk:k<l.length):(bE l).flatten.take k++[.bool x]++(bE l).flatten.drop (k+1)=(bE (l.set k x)).flatten:=by have :=Nd (x:=[.bool x]) (jZ l) (by rw[bZ];exact hk) rfl;simp only[Ed] at this;rw[this];unfold bE;rw[Ib]
theorem Vy {l:List Bool} {m:Nat} (h:m<l.length):yS l ((m+1:Nat):Int)=l[m]:=by unfold yS;rw[Bq.2 (by omega),show(((m+1:Nat):Int) -1).toNat=m by omega];simp[h]
def xX (s:Sc) (m:Nat) (x:List Int):Sc:={s with st:=s.st.set m true,ps:=s.ps.set m x,vs:=s.vs.set m [0,0,0],ws:=s.ws.set m [0,0,0]}
theorem aAi {g r0 r1:Int} {tv rv uv pv:AV} {k:Int} {m:Nat} {qs:List (List Int)} (wE:fO pv 7 (aZ qs)) (hq:∀q∈qs,q.length=7) (Xi:0<qs.length) (Nt:qs.length<2^30)
 {H:aA} {p lo hi:Nat} {a b c d e f:AV} {o:Bool} {s:Sc} (hp:H.get p=some (.cells [a,b,c,d,e,f] o)) (hm:fU H lo hi a b c d e f s) (nS:p<H.next) (Lt:hi<=H.next) (hn:m<s.st.length)
 (hl:s.st.length<2^30) (h1:s.ps.length=s.st.length) (h2:s.vs.length=s.st.length) (h3:s.ws.length=s.st.length) (xo:∀r∈s.ps,r.length=7) (Pr:∀r∈s.vs,r.length=3) (MS:∀r∈s.ws,r.length=3):
 ∃H',Sg 75 [.agg (yC g r0 r1 tv rv uv),.ref p 0,.agg (oC k ((m+1:Nat):Int) pv)] H (.ret (.int .i64 (if s.st[m] then 4 else 0))) H'/\dr H H' lo hi a b c d e f (if s.st[m] then s else xX s m (qs.getD (qs.length -1) [])):=by
 have MR:=hm;obtain⟨n1,n2,n3,n4,n5,r1',r2',r3',r4',r5',r6',o1,o2,o3,o4,o5,o6⟩:=hm;obtain⟨d1,e1,l1,u1,g1⟩:=r1'.at (i:=m) (by rw[bZ];exact hn);obtain⟨d2,e2,l2,u2,g2⟩:=r2'.at (i:=m) (by rw[aS];omega);obtain⟨d3,e3,l3,u3,g3⟩:=r3'.at (i:=m) (by rw[aS];omega);obtain⟨d4,e4,l4,u4,g4⟩:=r4'.at (i:=m) (by rw[aS];omega);have x1:m+1<=(bE s.st).flatten.length:=by rw[gP (jZ _),bZ];omega
 have x2:m*7+7<=(aZ s.ps).flatten.length:=by rw[gP (lJ xo),aS];omega
 have x3:m*3+3<=(aZ s.vs).flatten.length:=by rw[gP (lJ Pr),aS];omega
 have x4:m*3+3<=(aZ s.ws).flatten.length:=by rw[gP (lJ MS),aS];omega
 have DO:m<(bE s.st).length:=by rw[bZ];exact hn
 have EY:m<(aZ s.ps).length:=by rw[aS];omega
 have MM:m<(aZ s.vs).length:=by rw[aS];omega
 have hi4:m<(aZ s.ws).length:=by rw[aS];omega
 have aSo:pv=.bD 0 7 (aZ qs):=wE.bD (i:=0) (by rw[aS];exact Xi);subst aSo;have hj:qs.length -1<qs.length:=by omega
 have Zl:=cN hj;have aFl:(iC qs[qs.length -1]).length=7:=by rw[cD,hq _ (Ac hj)]
 have hqd:qs.getD (qs.length -1) []=qs[qs.length -1]:=by simp[hj]
 rw[hqd];have hw:IntKind.i64.wrap ((qs.length:Int) -1)=((qs.length -1:Nat):Int):=wI (by omega);have Zv:IntKind.i64.wrap (((m+1:Nat):Int) -1)=(m:Int):=wI (by omega);have aRv:=sU (x:=true) hn;have Pd:=wW (x:=qs[qs.length -1]) xo (k:=m) (by omega) (hq _ (Ac hj));have aVb:=wW (x:=[0,0,0]) Pr (k:=m) (by omega) rfl;rw[show iC [0,0,0]=[AV.int .i64 0,.int .i64 0,.int .i64 0] from rfl] at aVb;have aVc:=wW (x:=[0,0,0]) MS (k:=m) (by omega) rfl;rw[show iC [0,0,0]=[AV.int .i64 0,.int .i64 0,.int .i64 0] from rfl] at aVc;have gV:=Vy hn;generalize s.st[m]=tb at *;generalize hx:qs[qs.length -1]=x at *
 obtain⟨_,H',⟨rfl,hq⟩,hS⟩:=cZ (R:=fun o H'=>o=.ret (.int .i64 (if tb then 4 else 0))/\dr H H' lo hi a b c d e f (if tb then s else xX s m x)) fit bCx (args:=[.agg (yC g r0 r1 tv rv uv),.ref p 0,.agg (oC k ((m+1:Nat):Int) (.bD 0 7 (aZ qs)))]) (H:=H) (Ai rfl) (by
  unfold W75;dsimp only;refine bQ ?_;simp only[↓zP,zJ,seval,yC,oC];refine bR ?_;generalize hX:(H.alloc _).alloc _=HA;have go:HA.get (H.next+1)=some (.cells [.int .i64 k,.int .i64 ((m+1:Nat):Int),.bD 0 7 (aZ qs)] false):=by subst hX;rw[aA.aG,if_pos Zbo]
  have gn:HA.next=H.next+2:=by subst hX;simp only[aA.aR]
  have gk:∀j,j<H.next->HA.get j=H.get j:=fun j hj=>by subst hX;rw[aA.aG,if_neg Zaf,aA.aG,if_neg (by omega)]
  clear hX;refine bV fun f0 dQ=>?_;have v1:f0 1=.ref p 0:=by subst dQ;exact rfl
  have v5:f0 5=.ref (H.next+1) 0:=by subst dQ;simp only[zB,seval]
  have v6:f0 6=.int .i64 0:=by subst dQ;simp only[zB,seval]
  clear dQ;have gp:=(gk p nS).trans hp;have mB:=MR.dH (H':=HA) fun j hj=>gk j (by omega);have S1:=xA gp mB (n:=((m+1:Nat):Int)) (by omega) (by omega) hl;rw[gV] at S1;have y1:=(gk d1 (by omega)).trans g1;have y2:=(gk d2 (by omega)).trans g2;have y3:=(gk d3 (by omega)).trans g3;have y4:=(gk d4 (by omega)).trans g4;subst e1 e2 e3 e4;refine bQ ?_;simp only[↓zP,zJ,seval,v1,v5,go];refine bY (S1) ?_;cases tb;rotate_left
  . refine Tz ?_;exact ZaP
  refine Tz ?_;refine bR ?_;refine bV fun f1 mT=>?_;have w1:=Ks mT v1;have w5:=Ks mT v5;have w6:=Ks mT v6;clear mT v1 v5 v6;refine bQ ?_;simp only[↓zP,zJ,seval,w5,go,Zv];refine bR ?_;have lq:(aZ qs).length=qs.length:=aS qs;have e21:d2≠d1:=by omega
  have e31:d3≠d1:=by omega
  have e32:d3≠d2:=by omega
  have e41:d4≠d1:=by omega
  have e42:d4≠d2:=by omega
  have e43:d4≠d3:=by omega
  refine bQ ?_;refine Dz ?_;simp only[↓zP,zJ,seval,zD,w1,w5,gp,go,aB,hw,lq,hj,Zl,oL aFl,DO,EY,MM,hi4,y1,y2,y3,y4,x1,x2,x3,x4,e21,e31,e32,e41,e42,e43];refine bR ?_;refine Tz ?_;refine Rx ?_;rw[aRv,Pd,aVb,aVc]
  have t4:∀{j:Nat} {X1 X2 X3 X4:fB},j≠d1->j≠d2->j≠d3->j≠d4->((((HA.set d1 X1).set d2 X2).set d3 X3).set d4 X4).get j=HA.get j:=fun h1 h2 h3 h4=>by rw[aA.aC,if_neg h4,aA.aC,if_neg h3,aA.aC,if_neg h2,aA.aC,if_neg h1]
  refine⟨rfl,by simp only[aA.aW];omega,fun j hj hx=>(t4 (by omega) (by omega) (by omega) (by omega)).trans (gk j hj),?_⟩;have kk:∀j,j<hi->j≠d1->j≠d2->j≠d3->j≠d4->∀{X1 X2 X3 X4:fB},((((HA.set d1 X1).set d2 X2).set d3 X3).set d4 X4).get j=H.get j:=fun j hj h1 h2 h3 h4=>(t4 h1 h2 h3 h4).trans (gk j (by omega));refine⟨n1,n2,n3,n4,n5,r1'.put rfl ?_ ?_ ⟨l1,u1⟩,r2'.put rfl ?_ ?_ ⟨l2,u2⟩,r3'.put rfl ?_ ?_ ⟨l3,u3⟩,r4'.put rfl ?_ ?_ ⟨l4,u4⟩,r5'.dH (Ab _) (Ab _) fun j h1 h2=>kk j (by omega) (by omega) (by omega) (by omega) (by omega),r6'.dH (Ab _) (Ab _) fun j h1 h2=>kk j (by omega) (by omega) (by omega) (by omega) (by omega),o1,o2,o3,o4,o5,o6⟩
  . simp only[bZ,xX,Bx]
  . rw[aA.aC,if_neg e41.symm,aA.aC,if_neg e31.symm,aA.aC,if_neg e21.symm,aA.aC,if_pos rfl];rfl
  . simp only[aS,xX,Bx]
  . rw[aA.aC,if_neg e42.symm,aA.aC,if_neg e32.symm,aA.aC,if_pos rfl];rfl
  . simp only[aS,xX,Bx]
  . rw[aA.aC,if_neg e43.symm,aA.aC,if_pos rfl];rfl
  . simp only[aS,xX,Bx]
  rw[aA.aC,if_pos rfl];rfl)
 exact⟨H',hS,hq⟩
theorem ZW {sz:Nat}:∀{bB:List (List AV)} {k:Nat},(∀e∈bB,e.length=sz)->k<bB.length->(bB.flatten.drop (k*sz)).take sz=bB.getD k []
 |[],_,_,h=>absurd h (Ap _)
 |e::bB,0,hl,_=>by have he:=hl e Ar;simp[<-he]
 |e::bB,k+1,hl,hk=>by have he:=hl e Ar;have ih:=ZW (bB:=bB) (k:=k) (fun y hy=>hl y (Au _ hy)) (by simpa using hk);rw[Bl,show(k+1)*sz=e.length+k*sz by rw[Dw,he];omega,Iy,ih];rfl
def CJ (s:Sc) (m:Nat) (x:List Int):Sc:={s with st:=s.st.set m false,ps:=s.ps.set m x}
def ma (b1 b2 b3 b4:Bool):Int:=if b1 then(if b2 then 7 else if b3 then(if b4 then 4 else 0) else 1) else 4
def Px (s:Sc) (ts:List Th) (rs us:List (List Int)) (q:List Int) (m:Nat):Int:=ma (s.st.getD m false) ((ts.map (·.kind)).getD m 0 != 2) (decide (q=s.ps.getD m [])) (mP s rs us ((m+1:Nat):Int))
theorem mc {g r0 r1:Int} {ts:List Th} {rs us:List (List Int)} {tv rv uv pv:AV} {k:Int} {m:Nat} {qs:List (List Int)} (mK:fO tv 14 (nD ts)) (mF:fO rv 8 (aZ rs)) (nF:fO uv 10 (aZ us)) (ht:∀t∈ts,t.OK) (hr:∀r∈rs,r.length=8) (hu:∀p∈us,p.length=10)
 (wE:fO pv 7 (aZ qs)) (hq:∀q∈qs,q.length=7) (Xi:0<qs.length) (Nt:qs.length<2^30)
 {H:aA} {p lo hi:Nat} {a b c d e f:AV} {o:Bool} {s:Sc} (hp:H.get p=some (.cells [a,b,c,d,e,f] o)) (hm:fU H lo hi a b c d e f s) (nS:p<H.next) (Lt:hi<=H.next) (hn:m<s.st.length)
 (hl:s.st.length<2^30) (h0:ts.length=s.st.length) (h1:s.ps.length=s.st.length) (xo:∀r∈s.ps,r.length=7) (hta:s.ta.length=rs.length) (hac:s.ac.length=us.length) (CV:rs.length<2^30) (Zs:us.length<2^30):
 ∃H',Sg 77 [.agg (yC g r0 r1 tv rv uv),.ref p 0,.agg (oC k ((m+1:Nat):Int) pv)] H (.ret (.int .i64 (Px s ts rs us (qs.getD 0 []) m))) H'/\
  dr H H' lo hi a b c d e f (if Px s ts rs us (qs.getD 0 []) m=0 then CJ s m ((ts.map (·.store)).getD m []) else s):=by
 have MR:=hm;obtain⟨n1,n2,n3,n4,n5,r1',r2',r3',r4',r5',r6',o1,o2,o3,o4,o5,o6⟩:=hm;obtain⟨d1,e1,l1,u1,g1⟩:=r1'.at (i:=m) (by rw[bZ];exact hn);obtain⟨d2,e2,l2,u2,g2⟩:=r2'.at (i:=m) (by rw[aS];omega);have x1:m+1<=(bE s.st).flatten.length:=by rw[gP (jZ _),bZ];omega
 have x2:m*7+7<=(aZ s.ps).flatten.length:=by rw[gP (lJ xo),aS];omega
 have DO:m<(bE s.st).length:=by rw[bZ];exact hn
 have EY:m<(aZ s.ps).length:=by rw[aS];omega
 have WQ:m<s.ps.length:=by omega
 have jQ:m<ts.length:=by omega
 have aSo:pv=.bD 0 7 (aZ qs):=wE.bD (i:=0) (by rw[aS];exact Xi);subst aSo;have xQ:tv=.bD 0 14 (nD ts):=mK.bD (i:=m) (by rw[dJ];exact jQ);subst xQ;have Zl:=cN Xi;have aFl:(iC qs[0]).length=7:=by rw[cD,hq _ (Ac Xi)]
 have hqd:qs.getD 0 []=qs[0]:=by simp[Xi]
 have DN:=mN jQ;have qP:=ht _ (Ac jQ);have MQ:=Th.len qP;have hk0:ts[m].cs.getD 0 aD=.int .i64 ts[m].kind:=rfl;have hlp:(iC s.ps[m]).length=7:=by rw[cD,xo _ (Ac WQ)]
 have rB:((aZ s.ps).flatten.drop (m*7)).take 7=iC s.ps[m]:=by rw[ZW (lJ xo) EY];exact cN WQ
 have Xh:cL [.i,.i,.i,.i,.i,.i,.i] (iC qs[0]) (iC s.ps[m])=some (decide (qs[0]=s.ps[m])):=sJ (n:=7) (hq _ (Ac Xi)) (xo _ (Ac WQ));have k7':ts[m].cs.drop 7=iC ts[m].store:=rfl;have xe:(iC ts[m].store).length=7:=by rw[cD,qP.store]
 have hRE:Px s ts rs us (qs.getD 0 []) m=ma s.st[m] (ts[m].kind != 2) (decide (qs[0]=s.ps[m])) (mP s rs us ((m+1:Nat):Int)):=by unfold Px;rw[hqd];simp[hn,jQ,WQ]
 have hTS:(ts.map (·.store)).getD m []=ts[m].store:=by simp[jQ]
 have Zv:IntKind.i64.wrap (((m+1:Nat):Int) -1)=(m:Int):=wI (by omega);have aRv:=sU (x:=false) hn;have Pd:=wW (x:=ts[m].store) xo (k:=m) WQ qP.store;have gV:=Vy hn;rw[hRE,hTS];clear hRE hTS;generalize s.st[m]=b1 at *;generalize gJ:(ts[m].kind != 2)=b2 at *;generalize decide (qs[0]=s.ps[m])=b3 at *;generalize hub:mP s rs us ((m+1:Nat):Int)=b4 at *
 obtain⟨_,H',⟨rfl,hq⟩,hS⟩:=cZ (R:=fun o H'=>o=.ret (.int .i64 (ma b1 b2 b3 b4))/\dr H H' lo hi a b c d e f (if ma b1 b2 b3 b4=0 then CJ s m ts[m].store else s)) fit bCz (args:=[.agg (yC g r0 r1 (.bD 0 14 (nD ts)) rv uv),.ref p 0,.agg (oC k ((m+1:Nat):Int) (.bD 0 7 (aZ qs)))]) (H:=H) (Ai rfl) (by
  unfold W77;dsimp only;refine bQ ?_;simp only[↓zP,zJ,seval,yC,oC];refine bR ?_;generalize hX:(H.alloc _).alloc _=HA;have gy:HA.get H.next=some (.cells [.int .i64 g,.int .i64 r0,.int .i64 r1,.bD 0 14 (nD ts),rv,uv] false):=by subst hX;rw[aA.aG,if_neg Zaf,aA.aG,if_pos rfl]
  have go:HA.get (H.next+1)=some (.cells [.int .i64 k,.int .i64 ((m+1:Nat):Int),.bD 0 7 (aZ qs)] false):=by subst hX;rw[aA.aG,if_pos Zbo]
  have gn:HA.next=H.next+2:=by subst hX;simp only[aA.aR]
  have gk:∀j,j<H.next->HA.get j=H.get j:=fun j hj=>by subst hX;rw[aA.aG,if_neg Zaf,aA.aG,if_neg (by omega)]
  clear hX;refine bV fun f0 dQ=>?_;have v1:f0 1=.ref p 0:=by subst dQ;exact rfl
  have v3:f0 3=.ref H.next 0:=by subst dQ;simp only[zB,seval]
  have v5:f0 5=.ref (H.next+1) 0:=by subst dQ;simp only[zB,seval]
  have v6:f0 6=.int .i64 0:=by subst dQ;simp only[zB,seval]
  clear dQ;have gp:=(gk p nS).trans hp;have mB:=MR.dH (H':=HA) fun j hj=>gk j (by omega);have S1:=xA gp mB (n:=((m+1:Nat):Int)) (by omega) (by omega) hl;rw[gV] at S1;obtain⟨HU,S2,GA,huk⟩:=aIg (g:=g) (r0:=r0) (r1:=r1) (n:=((m+1:Nat):Int)) mK mF nF hr hu gp mB (by omega) (by omega) hta hac CV Zs;rw[hub] at S2;simp only[yC] at S2;have y1:=(gk d1 (by omega)).trans g1;have y2:=(gk d2 (by omega)).trans g2;subst e1 e2;refine bQ ?_;simp only[↓zP,zJ,seval,v5,go,Zv];refine bR ?_;refine bV fun f1 mT=>?_;have w1:=Ks mT v1;have w3:=Ks mT v3;have w5:=Ks mT v5;have w6:=Ks mT v6;have w7:f1 7=.int .i64 m:=by subst mT;simp only[zB,seval]
  clear mT v1 v3 v5 v6;have lq:(aZ qs).length=qs.length:=aS qs;have lt:(nD ts).length=ts.length:=dJ ts;have e21:d2≠d1:=by omega
  refine bQ ?_;refine aJ ?_;refine bQ ?_;simp only[↓zP,zJ,seval,w1,w5,go];refine bY (S1) ?_;refine Tz ?_;refine bR ?_;cases b1
  . refine Ty ?_;exact ZaP
  simp only[↓zP,zJ,seval,w3,w7,gy,aB,lt,jQ,DN,MQ,hk0,gJ];cases b2;rotate_left
  . refine Tx ?_;exact ZaP
  refine Tx ?_;refine Dz ?_;have z0:asNat (.int .i64 0)=some 0:=rfl;cases b3
  . simp only[↓zP,zJ,seval,zD,w1,w5,w7,gp,go,z0,aB,lq,Xi,Zl,oL aFl,EY,y2,x2,rB,Xh];exact ZaP
  simp only[↓zP,zJ,seval,zD,w1,w3,w5,w7,gp,go,gy,z0,aB,lq,Xi,Zl,oL aFl,EY,y2,x2,rB,Xh];refine bY (S2) ?_;have uo:=(huk _ (by omega)).trans go;have uy:=(huk _ (by omega)).trans gy;have up:=(huk _ (by omega)).trans gp;have z1:=(huk d1 (by omega)).trans y1;have z2:=(huk d2 (by omega)).trans y2;have uk:∀j,j<H.next->HU.get j=H.get j:=fun j hj=>(huk j (by omega)).trans (gk j hj);cases b4;rotate_left
  . refine Tz ?_;refine Rx ?_;exact⟨rfl,by omega,fun j hj _=>uk j hj,MR.dH fun j hj=>uk j (by omega)⟩
  refine Tz ?_;refine bR ?_;refine bV fun f2 FY=>?_;have x1':=Ks FY w1;have x3':=Ks FY w3;have x7':=Ks FY w7;clear FY w1 w3 w5 w6 w7;refine bQ ?_;refine Dz ?_;simp only[↓zP,zJ,seval,zD,x1',x3',x7',up,uy,aB,lt,jQ,DN,k7',oL xe,DO,EY,z1,z2,x1,x2,e21];refine bR ?_;refine Tz ?_;refine Rx ?_;rw[aRv,Pd,if_pos (show ma true false true false=0 from rfl)]
  have t4:∀{j:Nat} {X1 X2:fB},j≠d1->j≠d2->((HU.set d1 X1).set d2 X2).get j=HU.get j:=fun h1 h2=>by rw[aA.aC,if_neg h2,aA.aC,if_neg h1]
  refine⟨rfl,by simp only[aA.aW];omega,fun j hj hx=>(t4 (by omega) (by omega)).trans (uk j hj),?_⟩;have kk:∀j,j<hi->j≠d1->j≠d2->∀{X1 X2:fB},((HU.set d1 X1).set d2 X2).get j=H.get j:=fun j hj h1 h2=>(t4 h1 h2).trans (uk j (by omega));refine⟨n1,n2,n3,n4,n5,r1'.put rfl ?_ ?_ ⟨l1,u1⟩,r2'.put rfl ?_ ?_ ⟨l2,u2⟩,r3'.dH (Ab _) (Ab _) fun j h1 h2=>kk j (by omega) (by omega) (by omega),r4'.dH (Ab _) (Ab _) fun j h1 h2=>kk j (by omega) (by omega) (by omega),r5'.dH (Ab _) (Ab _) fun j h1 h2=>kk j (by omega) (by omega) (by omega),r6'.dH (Ab _) (Ab _) fun j h1 h2=>kk j (by omega) (by omega) (by omega),o1,o2,o3,o4,o5,o6⟩
  . simp only[bZ,CJ,Bx]
  . rw[aA.aC,if_neg e21.symm,aA.aC,if_pos rfl];rfl
  . simp only[aS,CJ,Bx]
  rw[aA.aC,if_pos rfl];rfl)
 exact⟨H',hS,hq⟩
theorem dw {P:Program} {g:bG} {n:Nat} {pairs:List (Nat×Nat)} {base:Nat} {i k:Nat} {rs:List bK} {rd:List (Nat×Nat)} {ef:List (Nat×aA×aA)} {f:dE} {H:aA} {R:dE->aA->Prop}
 {d:Nat} {c:Arg} {fid:FuncId} {fs cs:List AV} {xs:List Arg} {args:List AV} {v:AV} {H':aA} (hd:d<n) (hc:nH g f c=.func (.func fid) fs cs) (ha:fs++xs.map (nH g f)++cs=args) (hS:Sound P g fid args H (.ret v) H') (hn:H.next<=H'.next)
 (hr:∀x∈rd,(x.1,i)∈pairs->H.get x.2=H'.get x.2)
 (h:eF P g n pairs base (i+1) k rs rd ((i,H,H')::ef) (kH f d v) H' R):eF P g n pairs base i k (⟨some d,.call c xs,none⟩::rs) rd ef f H R:=by
 have :∀v,fM n f (some d) v=kH f d v:=fun v=>by simp[fM,hd]
 unfold eF;rw[if_pos (by rfl)];simp only[this];refine⟨v,H',?_,hn,hr,h⟩;exact⟨(fid,fs,cs),by rw[hc];rfl,by rw[ha];exact hS⟩
def aRy:List (AV×AV):=[(.int .i64 1,.func (.func 75) [] []),(.int .i64 2,.func (.func 77) [] []),(.int .i64 3,.func (.func 79) [] []),(.int .i64 4,.func (.func 80) [] []),(.int .i64 5,.func (.func 81) [] []),(.int .i64 6,.func (.func 82) [] [])]
theorem Uo (H:aA):∃H',Sg 34 [] H (.ret (.map H.next)) H'/\H'.get H.next=some (.map aRy)/\H'.next=H.next+1/\∀j,j<H.next->H'.get j=H.get j:=by
 obtain⟨_,H',⟨rfl,hq⟩,hS⟩:=cZ (R:=fun o H'=>o=.ret (.map H.next)/\H'.get H.next=some (.map aRy)/\H'.next=H.next+1/\∀j,j<H.next->H'.get j=H.get j) fit bCf (args:=[]) (H:=H) (Ai rfl) (by
  unfold W34;dsimp only;simp only[↓zP,zJ,seval,HT,kD,sameKey];refine Rx ?_
  exact⟨rfl,by rw[aA.aC,if_pos rfl];rfl,by simp only[aA.aW,aA.aR],fun j hj=>by simp only[aA.aC,aA.aG,show ¬j=H.next from by omega,Bp]⟩)
 exact⟨H',hS,hq⟩
def CY (ts:List Th) (rs us:List (List Int)) (k n:Int) (qs:List (List Int)) (s:Sc):Int×Sc:=
 if k=1 then(if s.st.getD (n.toNat -1) false then(4,s) else(0,xX s (n.toNat -1) (qs.getD (qs.length -1) [])))
 else if k=2 then(Px s ts rs us (qs.getD 0 []) (n.toNat -1),if Px s ts rs us (qs.getD 0 []) (n.toNat -1)=0 then CJ s (n.toNat -1) ((ts.map (·.store)).getD (n.toNat -1) []) else s)
 else if k=3 then(if PE s (rs.getD n.toNat []) n.toNat then(4,s) else(0,{s with ta:=s.ta.set n.toNat true}))
 else if k=4 then(if s.ta.getD n.toNat false then(0,{s with ta:=s.ta.set n.toNat false}) else(4,s))
 else if k=5 then(if Mx s (us.getD n.toNat []) n.toNat then(4,s) else(0,{s with ac:=s.ac.set n.toNat true}))
 else(if s.ac.getD n.toNat false then(0,{s with ac:=s.ac.set n.toNat false}) else(4,s))
structure YS (ts:List Th) (rs us:List (List Int)) (s:Sc):Prop where
 ht:∀t∈ts,t.OK
 hr:∀r∈rs,r.length=8
 hu:∀p∈us,p.length=10
 xQ:ts.length<2^30
 CV:rs.length<2^30
 Zs:us.length<2^30
 st:s.st.length=ts.length
 ps:s.ps.length=ts.length
 vs:s.vs.length=ts.length
 ws:s.ws.length=ts.length
 ta:s.ta.length=rs.length
 ac:s.ac.length=us.length
 aBc:∀r∈rs,(0<=r.getD 0 0/\r.getD 0 0<=ts.length)/\0<=r.getD 1 0/\r.getD 1 0<=ts.length
 push:∀r∈us,0<=r.getD 0 0/\r.getD 0 0<=ts.length
theorem uZ {nT nR nP:Nat} {k n:Int} {qs:List (List Int)} (h:lR nT nR nP k n qs=0):
 ((k=1\/k=2)/\1<=n/\n<=nT/\2<=qs.length/\qs.length<=32)\/((k=3\/k=4)/\0<=n/\n<nR)\/((k=5\/k=6)/\0<=n/\n<nP)\/k=7\/k=8:=by
 unfold lR yU at h;by_cases h1:k=1\/k=2
 . simp only[h1,if_true] at h;split at h
   . cases h
   rename_i hn;split at h
   . cases h
   split at h
   . cases h
   rename_i hl
   have hm:TD k=true:=(by unfold TD;rcases h1 with rfl|rfl<;>rfl);simp[Sz,hm] at hl;simp at hn;exact .inl ⟨h1,by omega,by omega,by omega,by omega⟩
 simp only[h1,Bp] at h;by_cases h3:k=3\/k=4
 . simp only[h3,if_true] at h;split at h
   . cases h
   rename_i hn;simp at hn;exact .inr (.inl ⟨h3,by omega,by omega⟩)
 simp only[h3,Bp] at h;by_cases h5:k=5\/k=6
 . simp only[h5,if_true] at h;split at h
   . cases h
   rename_i hn;simp at hn;exact .inr (.inr (.inl ⟨h5,by omega,by omega⟩))
 simp only[h5,Bp] at h;by_cases h7:k=7
 . exact .inr (.inr (.inr (.inl h7)))
 simp only[h7,Bp] at h;by_cases h8:k=8
 . exact .inr (.inr (.inr (.inr h8)))
 simp only[h8,Bp] at h;cases h
theorem Nn {g r0 r1:Int} {ts:List Th} {rs us:List (List Int)} {tv rv uv pv:AV} {k n:Int} {qs:List (List Int)} {s:Sc} (hs:s.OK) (hy:YS ts rs us s) (mK:fO tv 14 (nD ts)) (mF:fO rv 8 (aZ rs)) (nF:fO uv 10 (aZ us))
 (wE:fO pv 7 (aZ qs)) (hq:∀q∈qs,q.length=7) (hc:lR ts.length rs.length us.length k n qs=0) (h7:k≠7) (h8:k≠8)
 {H:aA} {p lo hi:Nat} {a b c d e f:AV} {o:Bool} (hp:H.get p=some (.cells [a,b,c,d,e,f] o)) (hm:fU H lo hi a b c d e f s) (nS:p<H.next) (Lt:hi<=H.next):
 ∃fid i H',kD .i (.int .i64 k) aRy 0=some (some (i,.func (.func fid) [] []))/\Sg fid [.agg (yC g r0 r1 tv rv uv),.ref p 0,.agg (oC k n pv)] H (.ret (.int .i64 (CY ts rs us k n qs s).1)) H'/\dr H H' lo hi a b c d e f (CY ts rs us k n qs s).2:=by
 have st:=hy.st;have ps:=hy.ps;have vs:=hy.vs;have ws:=hy.ws;have ta:=hy.ta;have ac:=hy.ac;have xQ:=hy.xQ;have KM:s.st.length<2^30:=by omega
 rcases uZ hc with ⟨hk,n1,n2,q1,q2⟩|⟨hk,n1,n2⟩|⟨hk,n1,n2⟩|hk|hk
 . obtain⟨m,rfl⟩:∃m:Nat,n=((m+1:Nat):Int):=⟨(n -1).toNat,by omega⟩;have yW:m<s.st.length:=by omega
   have hmt:(((m+1:Nat):Int)).toNat -1=m:=(by omega);have sL:s.st.getD m false=s.st[m]:=by simp[yW]
   rcases hk with rfl|rfl
   . obtain⟨H',hS,hA⟩:=aAi (g:=g) (r0:=r0) (r1:=r1) (tv:=tv) (rv:=rv) (uv:=uv) (k:=1) wE hq (by omega) (by omega) hp hm nS Lt yW KM (by omega) (by omega) (by omega) (fun r h=>(hs.p7 r h).1) (fun r h=>(hs.v3 r h).1) (fun r h=>(hs.w3 r h).1);refine⟨_,_,H',rfl,?_⟩;unfold CY;simp only[if_true,hmt,sL];generalize s.st[m]=tb at *;cases tb<;>exact⟨hS,hA⟩
   obtain⟨H',hS,hA⟩:=mc (g:=g) (r0:=r0) (r1:=r1) (k:=2) mK mF nF hy.ht hy.hr hy.hu wE hq (by omega) (by omega) hp hm nS Lt yW KM (by omega) (by omega) (fun r h=>(hs.p7 r h).1) ta ac hy.CV hy.Zs;refine⟨_,_,H',rfl,?_⟩;unfold CY;simp only[if_true,hmt,show ¬(2:Int)=1 from by decide,Bp];exact⟨hS,hA⟩
 . obtain⟨m,rfl⟩:∃m:Nat,n=(m:Int):=⟨n.toNat,by omega⟩;have Us:m<rs.length:=by omega
   have yW:m<s.ta.length:=(by omega);have sL:s.ta.getD m false=s.ta[m]:=(by simp[yW]);have Qu:rs.getD m []=rs[m]:=(by simp[Us]);have BW:=hy.aBc _ (Ac Us)
   rcases hk with rfl|rfl
   . obtain⟨H',hS,hA⟩:=aUk (g:=g) (r0:=r0) (r1:=r1) (tv:=tv) (uv:=uv) (pv:=pv) (k:=3) mF hy.hr hp hm nS Lt yW Us KM (by omega) (by omega);refine⟨_,_,H',rfl,?_⟩;unfold CY;simp only[if_true,show ¬(3:Int)=1 from by decide,show ¬(3:Int)=2 from by decide,Bp,Dr,Qu];generalize PE s rs[m] m=tb at *;cases tb<;>exact⟨hS,hA⟩
   obtain⟨H',hS,hA⟩:=aRm (g:=g) (r0:=r0) (r1:=r1) (tv:=tv) (rv:=rv) (uv:=uv) (pv:=pv) (k:=4) hp hm nS Lt yW;refine⟨_,_,H',rfl,?_⟩;unfold CY;simp only[if_true,show ¬(4:Int)=1 from by decide,show ¬(4:Int)=2 from by decide,show ¬(4:Int)=3 from by decide,Bp,Dr,sL];generalize s.ta[m]=tb at *;cases tb<;>exact⟨hS,hA⟩
 . obtain⟨m,rfl⟩:∃m:Nat,n=(m:Int):=⟨n.toNat,by omega⟩;have Us:m<us.length:=by omega
   have yW:m<s.ac.length:=(by omega);have sL:s.ac.getD m false=s.ac[m]:=(by simp[yW]);have Qu:us.getD m []=us[m]:=(by simp[Us]);have BW:=hy.push _ (Ac Us)
   rcases hk with rfl|rfl
   . obtain⟨H',hS,hA⟩:=aRi (g:=g) (r0:=r0) (r1:=r1) (tv:=tv) (rv:=rv) (pv:=pv) (k:=5) nF hy.hu hp hm nS Lt yW Us KM (by omega);refine⟨_,_,H',rfl,?_⟩;unfold CY;simp only[if_true,show ¬(5:Int)=1 from by decide,show ¬(5:Int)=2 from by decide,show ¬(5:Int)=3 from by decide,show ¬(5:Int)=4 from by decide,Bp,Dr,Qu];generalize Mx s us[m] m=tb at *;cases tb<;>exact⟨hS,hA⟩
   obtain⟨H',hS,hA⟩:=aFa (g:=g) (r0:=r0) (r1:=r1) (tv:=tv) (rv:=rv) (uv:=uv) (pv:=pv) (k:=6) hp hm nS Lt yW;refine⟨_,_,H',rfl,?_⟩;unfold CY;simp only[show ¬(6:Int)=1 from by decide,show ¬(6:Int)=2 from by decide,show ¬(6:Int)=3 from by decide,show ¬(6:Int)=4 from by decide,show ¬(6:Int)=5 from by decide,Bp,Dr,sL];generalize s.ac[m]=tb at *;cases tb<;>exact⟨hS,hA⟩
 . exact absurd hk h7
 exact absurd hk h8
theorem _root_.Go.Av.Sound.wkT {P:Program} {g:bG} {f:FuncId} {args:List AV} {H H':aA} {vs WZ:List AV} (h:Sound P g f args H (.ret (.iA vs)) H') (hl:WZ.length=vs.length) (hw:∀j,j<vs.length->Wk (vs.getD j aD) (WZ.getD j aD)):Sound P g f args H (.ret (.iA WZ)) H':=
 ⟨h.1,fun G w us hG hv=>(h.2 G w us hG hv).mono fun e w' he=>by
   obtain⟨G',h1,h2,h3⟩:=he;refine⟨G',h1,h2,?_⟩
   cases e with
   |returned u=>
    change VR G' w' (.iA vs) u at h3;show VR G' w' (.iA WZ) u
    cases h3 with
    |iA _ us' pA hj=>exact .iA WZ us' (by omega) fun j FA=>VR.wk (hw j (by omega)) (hj j (by omega))
   |_=>exact h3.elim⟩
def xD (v:AV) (sz:Nat) (bB:List (List AV)):AV:=match v with
 |.aO=>.aO
 |.bD _ _ _=>.bD 1 sz []
 |_=>.bD 0 sz bB
def opV (v:AV) (sz:Nat) (bB:List (List AV)):AV:=match v with
 |.aO=>.aO
 |_=>.bD 0 sz bB
theorem iG {sz:Nat}:∀{bB:List (List AV)},(∀e∈bB,e.length=sz)->fI sz bB.length bB.flatten=bB
 |[],_=>rfl
 |e::bB,h=>by have he:=h e Ar;simp only[As,Bl,fI];rw[Ce (by omega),Aq (by omega),Hj,Gs (by omega),he,Nat.sub_self];simp[iG fun y hy=>h y (Au _ hy)]
theorem Nh:∀{bB:List (List AV)},(∀e∈bB,bO e=true)->bO bB.flatten=true
 |[],_=>rfl
 |e::bB,h=>by rw[Bl,gD,h e Ar,Nh fun y hy=>h y (Au _ hy)];rfl
theorem Lq.shut {H:aA} {lo hi:Nat} {v:AV} {sz:Nat} {bB:List (List AV)} (h:Lq H lo hi v sz bB) (hl:∀e∈bB,e.length=sz) (hf:∀e∈bB,bO e=true) (nw:Nat):fA H none nw v=some (xD v sz bB):=by
 rcases h with ⟨rfl,rfl|rfl⟩|⟨id,rfl,_,_,hg⟩
 . rfl
 . rfl
 have h1:H.eS id=some bB.flatten:=by simp only[aA.eS,hg]
 have hb:Nat.ble (bB.length*sz) bB.flatten.length=true:=Jw (by rw[gP hl];exact Ab _);simp only[fA,h1,Ee,Cq,hb,Nh hf,Cp,iG hl,xD]
theorem Lq.wk {H:aA} {lo hi:Nat} {v:AV} {sz:Nat} {bB:List (List AV)} (h:Lq H lo hi v sz bB):Wk (xD v sz bB) (opV v sz bB)/\fO (opV v sz bB) sz bB:=by
 rcases h with ⟨rfl,rfl|rfl⟩|⟨id,rfl,_,_,hg⟩
 . exact⟨.refl _,.inl ⟨rfl,rfl⟩⟩
 . exact⟨.bD 1 sz [] [] rfl (fun h=>h) rfl fun j hj=>absurd hj (Ap _),.inr rfl⟩
 exact⟨.refl _,.inr rfl⟩
def vT (ts:List Th) (rs us:List (List Int)) (k n:Int) (qs:List (List Int)) (s:Sc):Int×Sc:=
 if lR ts.length rs.length us.length k n qs≠0 then(lR ts.length rs.length us.length k n qs,s)
 else if k=7\/k=8 then(0,s)
 else if lZ s=false then(4,s)
 else if(CY ts rs us k n qs s).1≠0 then((CY ts rs us k n qs s).1,s)
 else CY ts rs us k n qs s
structure GM (s t:Sc):Prop where
 st:s.st=t.st
 ps:s.ps=t.ps
 vs:s.vs=t.vs
 ws:s.ws=t.ws
 ta:s.ta=t.ta
 ac:s.ac=t.ac
theorem fU.shut {H:aA} {lo hi:Nat} {a b c d e f:AV} {s:Sc} (h:fU H lo hi a b c d e f s) (p7:∀r∈s.ps,r.length=7) (v3:∀r∈s.vs,r.length=3) (w3:∀r∈s.ws,r.length=3) (x:Int) (nw:Nat):
 fG H none nw 2 (.iA [.agg [a,b,c,d,e,f],.int .i64 x])=some (.iA [.agg [xD a 1 (bE s.st),xD b 7 (aZ s.ps),xD c 3 (aZ s.vs),xD d 3 (aZ s.ws),xD e 1 (bE s.ta),xD f 1 (bE s.ac)],.int .i64 x]):=by
 obtain⟨n1,n2,n3,n4,n5,r1,r2,r3,r4,r5,r6,_⟩:=h;simp only[fG,CX,r1.shut (jZ _) (gO _),r2.shut (lJ p7) (bF _),r3.shut (lJ v3) (bF _),r4.shut (lJ w3) (bF _),r5.shut (jZ _) (gO _),r6.shut (jZ _) (gO _),Bu];rfl
def VK (a b c d e f:AV) (s:Sc):Sc:=⟨opV a 1 (bE s.st),opV b 7 (aZ s.ps),opV c 3 (aZ s.vs),opV d 3 (aZ s.ws),opV e 1 (bE s.ta),opV f 1 (bE s.ac),s.st,s.ps,s.vs,s.ws,s.ta,s.ac⟩
theorem fU.wk {P:Program} {g:bG} {fid:FuncId} {args:List AV} {H0 H0' H:aA} {lo hi:Nat} {a b c d e f:AV} {s:Sc} {x:Int} (h:fU H lo hi a b c d e f s)
 (hS:Sound P g fid args H0 (.ret (.iA [.agg [xD a 1 (bE s.st),xD b 7 (aZ s.ps),xD c 3 (aZ s.vs),xD d 3 (aZ s.ws),xD e 1 (bE s.ta),xD f 1 (bE s.ac)],.int .i64 x])) H0'):Sound P g fid args H0 (.ret (.iA [.agg (VK a b c d e f s).cs,.int .i64 x])) H0':=by
 obtain⟨n1,n2,n3,n4,n5,r1,r2,r3,r4,r5,r6,_⟩:=h;refine Go.Av.Sound.wkT hS rfl fun j hj=>?_
 match j,hj with
 |0,_=>
  refine .agg _ _ rfl fun j hj=>?_
  match j,hj with
  |0,_=>exact r1.wk.1
  |1,_=>exact r2.wk.1
  |2,_=>exact r3.wk.1
  |3,_=>exact r4.wk.1
  |4,_=>exact r5.wk.1
  |5,_=>exact r6.wk.1
 |1,_=>exact .refl _
theorem fU.ok {H:aA} {lo hi:Nat} {a b c d e f:AV} {s:Sc} (h:fU H lo hi a b c d e f s) (p7:∀p∈s.ps,p.length=7/\lC p) (v3:∀w∈s.vs,w.length=3/\lC w) (w3:∀w∈s.ws,w.length=3/\lC w)
 (l1:s.st.length<2^30) (l2:s.ps.length<2^30) (l3:s.vs.length<2^30) (l4:s.ws.length<2^30) (l5:s.ta.length<2^30) (l6:s.ac.length<2^30):(VK a b c d e f s).OK:=by
 obtain⟨n1,n2,n3,n4,n5,r1,r2,r3,r4,r5,r6,_⟩:=h;exact⟨r1.wk.2,r2.wk.2,r3.wk.2,r4.wk.2,r5.wk.2,r6.wk.2,p7,v3,w3,l1,l2,l3,l4,l5,l6⟩
theorem fU.aKs {H H':aA} {lo hi:Nat} {a b c d e f:AV} {s:Sc} (hm:fU H lo hi a b c d e f s) (hk:∀j,lo<=j->j<hi->H'.get j=H.get j):fU H' lo hi a b c d e f s:=by obtain⟨n1,n2,n3,n4,n5,r1,r2,r3,r4,r5,r6,h⟩:=hm;exact⟨n1,n2,n3,n4,n5,r1.dH (Ab _) (Ab _) fun j g1 g2=>hk j (by omega) (by omega),r2.dH (Ab _) (Ab _) fun j g1 g2=>hk j (by omega) (by omega),r3.dH (Ab _) (Ab _) fun j g1 g2=>hk j (by omega) (by omega),r4.dH (Ab _) (Ab _) fun j g1 g2=>hk j (by omega) (by omega),r5.dH (Ab _) (Ab _) fun j g1 g2=>hk j (by omega) (by omega),r6.dH (Ab _) (Ab _) fun j g1 g2=>hk j (by omega) (by omega),h⟩
structure Kept (s t:Sc):Prop where
 p7:∀p∈t.ps,p.length=7/\lC p
 v3:∀w∈t.vs,w.length=3/\lC w
 w3:∀w∈t.ws,w.length=3/\lC w
 st:t.st.length=s.st.length
 ps:t.ps.length=s.ps.length
 vs:t.vs.length=s.vs.length
 ws:t.ws.length=s.ws.length
 ta:t.ta.length=s.ta.length
 ac:t.ac.length=s.ac.length
theorem Kept.refl {s:Sc} (h:s.OK):Kept s s:=⟨h.p7,h.v3,h.w3,rfl,rfl,rfl,rfl,rfl,rfl⟩
theorem Md {α:Type} {P:α->Prop} {l:List α} {k:Nat} {x:α} (h:∀y∈l,P y) (hx:k<l.length->P x):∀y∈l.set k x,P y:=fun y hy=>by
 by_cases hk:k<l.length
 . rcases List.mem_or_eq_of_mem_set hy with h1|rfl
   . exact h y h1
   exact hx hk
 rw[List.set_eq_of_length_le (by omega)] at hy;exact h y hy
theorem aKz:zV.length=3/\lC zV:=⟨rfl,fun x hx=>by simp[zV] at hx;subst hx;decide⟩
theorem IL {ts:List Th} {rs us:List (List Int)} {k n:Int} {qs:List (List Int)} {s:Sc} (hs:s.OK) (hy:YS ts rs us s) (hq:∀q∈qs,q.length=7/\lC q) (hc:lR ts.length rs.length us.length k n qs=0):Kept s (CY ts rs us k n qs s).2:=by
 have K:=Kept.refl hs;unfold CY;split
 . rename_i h1;split
   . exact K
   obtain⟨n1,n2,q1,q2⟩:1<=n/\n<=ts.length/\2<=qs.length/\qs.length<=32:=by
    rcases uZ hc with ⟨_,h⟩|⟨h,_⟩|⟨h,_⟩|h|h
    . exact h
    all_goals (exfalso;omega)
   have hj:qs.length -1<qs.length:=(by omega);have hqd:qs.getD (qs.length -1) []=qs[qs.length -1]:=(by simp[hj]);rw[hqd];exact⟨Md hs.p7 fun _=>hq _ (Ac hj),Md hs.v3 fun _=>aKz,Md hs.w3 fun _=>aKz,Bx ..,Bx ..,Bx ..,Bx ..,rfl,rfl⟩
 split
 . rename_i h1;dsimp only;split
   . refine⟨Md hs.p7 fun hl=>?_,hs.v3,hs.w3,Bx ..,Bx ..,rfl,rfl,rfl,rfl⟩;have Xc:n.toNat -1<ts.length:=(by have :=hy.ps;omega);rw[show(ts.map (·.store)).getD (n.toNat -1) []=ts[n.toNat -1].store by simp[Xc]];have :=hy.ht _ (Ac Xc);exact⟨this.store,this.i64⟩
   exact K
 split
 . split
   . exact K
   exact⟨hs.p7,hs.v3,hs.w3,rfl,rfl,rfl,rfl,Bx ..,rfl⟩
 split
 . split
   . exact⟨hs.p7,hs.v3,hs.w3,rfl,rfl,rfl,rfl,Bx ..,rfl⟩
   exact K
 split
 . split
   . exact K
   exact⟨hs.p7,hs.v3,hs.w3,rfl,rfl,rfl,rfl,rfl,Bx ..⟩
 split
 . exact⟨hs.p7,hs.v3,hs.w3,rfl,rfl,rfl,rfl,rfl,Bx ..⟩
 exact K
theorem JU {ts:List Th} {rs us:List (List Int)} {k n:Int} {qs:List (List Int)} {s:Sc} (hs:s.OK) (hy:YS ts rs us s) (hq:∀q∈qs,q.length=7/\lC q):Kept s (vT ts rs us k n qs s).2:=by
 have K:=Kept.refl hs;unfold vT;split
 . exact K
 rename_i h0;split
 . exact K
 split
 . exact K
 split
 . exact K
 exact IL hs hy hq (by simpa using h0)
theorem ry {g r0 r1:Int} {ts:List Th} {rs us:List (List Int)} {tv rv uv pv:AV} {k n:Int} {qs:List (List Int)} {s:Sc} (hs:s.OK) (hy:YS ts rs us s) (mK:fO tv 14 (nD ts)) (mF:fO rv 8 (aZ rs)) (nF:fO uv 10 (aZ us))
 (wE:fO pv 7 (aZ qs)) (hq:∀q∈qs,q.length=7/\lC q) (Nt:qs.length<2^63):
 ∃t:Sc,t.OK/\GM t (vT ts rs us k n qs s).2/\∀H,Sg 8 [.agg (yC g r0 r1 tv rv uv),.agg s.cs,.agg (oC k n pv)] H (.ret (.iA [.agg t.cs,.int .i64 (vT ts rs us k n qs s).1])) H:=by
 obtain⟨HA,WM⟩:∃HA:aA,HA=((((aA.mk 0 .nil).alloc (.cells (yC g r0 r1 tv rv uv) false)).alloc (.cells s.cs false)).alloc (.cells (oC k n pv) false)).alloc (.cells [.aO,.aO,.aO,.aO,.aO,.aO] false):=⟨_,rfl⟩;have a0:HA.get 0=some (.cells (yC g r0 r1 tv rv uv) false):=by subst WM;simp only[zI,seval]
 have a1:HA.get 1=some (.cells s.cs false):=by subst WM;simp only[zI,seval]
 have a2:HA.get 2=some (.cells (oC k n pv) false):=by subst WM;simp only[zI,seval]
 have a3:HA.get 3=some (.cells [.aO,.aO,.aO,.aO,.aO,.aO] false):=by subst WM;simp only[zI,seval]
 have an:HA.next=4:=by subst WM;simp only[zI,seval]
 have vw:bO [.agg (yC g r0 r1 tv rv uv),.agg s.cs,.agg (oC k n pv)]=true:=by
  have h1:=Sc.free hs;have h2:bO (yC g r0 r1 tv rv uv)=true:=by simp only[yC,sf,mK.free (fX hy.ht),mF.free (bF _),nF.free (bF _)]
  have h3:bO (oC k n pv)=true:=by simp only[oC,sf,wE.free (bF _)]
  simp only[sf,h1,h2,h3]
 have S1:=aEg (g:=g) (r0:=r0) (r1:=r1) (k:=k) (n:=n) mK mF nF wE hy.ht hq (by have :=hy.CV;omega) (by have :=hy.Zs;omega) (by omega) HA;obtain⟨a,b,c,d,e,f,H1,S2,M1,n1,k1⟩:=im hs HA;have b0:=(k1 0 (by omega)).trans a0;have b1:=(k1 1 (by omega)).trans a1;have b2:=(k1 2 (by omega)).trans a2;have b3:=(k1 3 (by omega)).trans a3;obtain⟨HB,vd⟩:∃HB:aA,HB=(H1.alloc (.cells [.aO,.aO,.aO,.aO,.aO,.aO] false)).set H1.next (.cells [a,b,c,d,e,f] false):=⟨_,rfl⟩;have cn:HB.next=H1.next+1:=by subst vd;simp only[aA.aW,aA.aR]
 have ck:∀j,j<H1.next->HB.get j=H1.get j:=fun j hj=>by subst vd;rw[aA.aC,if_neg (by omega),aA.aG,if_neg (by omega)]
 have c0:=(ck 0 (by omega)).trans b0;have c1:=(ck 1 (by omega)).trans b1;have c2:=(ck 2 (by omega)).trans b2;have c3:=(ck 3 (by omega)).trans b3;have c9:HB.get H1.next=some (.cells [a,b,c,d,e,f] false):=by subst vd;rw[aA.aC,if_pos rfl]
 have M2:fU HB HA.next H1.next a b c d e f s:=M1.dH fun j hj=>ck j (by omega);have S3:=aHt hs HB;obtain⟨HC,S4,m4,cn4,ck4⟩:=Uo HB;have e0:=(ck4 0 (by omega)).trans c0;have e1:=(ck4 1 (by omega)).trans c1;have e2:=(ck4 2 (by omega)).trans c2;have e3:=(ck4 3 (by omega)).trans c3;have e9:=(ck4 H1.next (by omega)).trans c9;have M3:fU HC HA.next H1.next a b c d e f s:=M2.dH fun j hj=>ck4 j (by omega);have l6:(yC g r0 r1 tv rv uv).length=6:=rfl;have l3:(oC k n pv).length=3:=rfl;have ls:s.cs.length=6:=rfl;have k0:(oC k n pv).getD 0 aD=.int .i64 k:=rfl;have K0:=JU (k:=k) (n:=n) hs hy hq;obtain⟨mV,hmV⟩:∃mV:Sc->AV,∀t,mV t=.iA [.agg [xD a 1 (bE t.st),xD b 7 (aZ t.ps),xD c 3 (aZ t.vs),xD d 3 (aZ t.ws),xD e 1 (bE t.ta),xD f 1 (bE t.ac)],.int .i64 0]:=⟨_,fun _=>rfl⟩
 obtain⟨V,hV⟩:∃V:AV,V=if lR ts.length rs.length us.length k n qs≠0 then(.iA [.agg s.cs,.int .i64 (lR ts.length rs.length us.length k n qs)]) else if k=7\/k=8 then mV s else if lZ s=false then(.iA [.agg s.cs,.int .i64 4]) else if(CY ts rs us k n qs s).1≠0 then(.iA [.agg s.cs,.int .i64 (CY ts rs us k n qs s).1]) else mV (CY ts rs us k n qs s).2:=⟨_,rfl⟩
 have fcs:=Sc.free hs
 have sS:∀(H:aA) (x:Int) (nw:Nat),fG H none nw 2 (.iA [.agg s.cs,.int .i64 x])=some (.iA [.agg s.cs,.int .i64 x]):=fun H x nw=>by
  have g1:∀{v:AV} {sz:Nat} {bB:List (List AV)},fO v sz bB->(∀e∈bB,bO e=true)->fA H none nw v=some v:=fun h hf=>by
   rcases h with ⟨rfl,_⟩|rfl
   . rfl
   simp only[fA,jO hf];rfl
  simp only[fG,CX,Sc.cs,g1 hs.st (gO _),g1 hs.ps (bF _),g1 hs.vs (bF _),g1 hs.ws (bF _),g1 hs.ta (gO _),g1 hs.ac (gO _),Bu];rfl
 have hW:∀H,Sg 8 [.agg (yC g r0 r1 tv rv uv),.agg s.cs,.agg (oC k n pv)] H (.ret V) H:=fun H=>by
  refine eC fit eZ is8 (Ai rfl) vw ?_ H;unfold W8;dsimp only;refine bQ ?_;refine Ty ?_;refine bR ?_;rw[<-WM];refine bV fun f0 dQ=>?_;have v3:f0 3=.ref 0 0:=by subst dQ;simp only[zB,seval]
  have v4:f0 4=.ref 1 0:=by subst dQ;simp only[zB,seval]
  have v5:f0 5=.ref 2 0:=by subst dQ;simp only[zB,seval]
  have v6:f0 6=.ref 3 0:=by subst dQ;simp only[zB,seval]
  have v7:f0 7=.int .i64 0:=by subst dQ;simp only[zB,seval]
  clear dQ WM;refine bQ ?_;simp only[↓zP,zJ,seval,v3,v5,a0,a2,oL l6,oL l3];refine bY (S1) ?_;by_cases hc:lR ts.length rs.length us.length k n qs=0;rotate_left
  . rw[if_pos hc] at hV;have hb:(lR ts.length rs.length us.length k n qs != 0)=true:=Dd.2 hc;simp only[↓zP,zJ,seval,hb,v4,v6,a1,a3,oL ls];refine⟨rfl,_,by simp only[↓zP,zR,seval,v6];rfl,?_⟩;subst hV;exact⟨_,2,rfl,fun nw=>sS _ _ nw⟩
  have hb:(lR ts.length rs.length us.length k n qs != 0)=false:=bne_eq_false_iff_eq.2 hc;rw[if_neg (not_not_intro hc)] at hV;simp only[↓zP,zG,seval,hb];refine bR ?_;have st:∀{H:aA} {X:fB} {t:Sc},fU H HA.next H1.next a b c d e f t->fU (H.set 3 X) HA.next H1.next a b c d e f t:=fun h=>h.aKs fun j h1 h2=>by rw[aA.aC,if_neg (by omega)]
  have q7:=fun r h=>(hs.p7 r h).1;have q3:=fun r h=>(hs.v3 r h).1;have qw:=fun r h=>(hs.w3 r h).1;refine bV fun f1 mT=>?_;have w3:=Ks mT v3;have w4:=Ks mT v4;have w5:=Ks mT v5;have w6:=Ks mT v6;have w7:=Ks mT v7;clear mT v3 v4 v5 v6 v7;refine bQ ?_;simp only[↓zP,zJ,seval,w4,a1,oL ls];refine bY (S2) ?_;refine Ty ?_;refine bR ?_;rw[<-vd];refine bV fun f2 FY=>?_;have v3:=Ks FY w3;have v4:=Ks FY w4;have v5:=Ks FY w5;have v6:=Ks FY w6;have v7:=Ks FY w7;have v9:f2 9=.ref H1.next 0:=by subst FY;simp only[zB,seval]
  clear FY w3 w4 w5 w6 w7 vd;generalize H1.next=r9 at *;refine bQ ?_;by_cases h7:k=7
  . have d7:(k==7)=true:=Cf.2 h7;rw[if_pos (.inl h7)] at hV;simp only[↓zP,zJ,seval,v5,v6,v9,c2,c3,c9,l3,k0,d7];refine⟨rfl,_,by simp only[↓zP,zR,seval,v6];rfl,?_⟩;subst hV;rw[hmV];exact⟨_,2,rfl,fun nw=>(st M2).shut q7 q3 qw 0 nw⟩
  have d7:(k==7)=false:=Bq.2 h7;by_cases h8:k=8
  . have d8:(k==8)=true:=Cf.2 h8;rw[if_pos (.inr h8)] at hV;simp only[↓zP,zJ,seval,v5,v6,v9,c2,c3,c9,l3,k0,d7,d8];refine⟨rfl,_,by simp only[↓zP,zR,seval,v6];rfl,?_⟩;subst hV;rw[hmV];exact⟨_,2,rfl,fun nw=>(st M2).shut q7 q3 qw 0 nw⟩
  have d8:(k==8)=false:=Bq.2 h8;rw[if_neg (fun h=>h.elim h7 h8)] at hV;simp only[↓zP,zJ,seval,v5,c2,l3,k0,d7,d8];refine bR ?_;refine bV fun f1 mT=>?_;have w3:=Ks mT v3;have w4:=Ks mT v4;have w5:=Ks mT v5;have w6:=Ks mT v6;have w7:=Ks mT v7;have w9:=Ks mT v9;clear mT v3 v4 v5 v6 v7 v9;refine bQ ?_;simp only[↓zP,zJ,seval,w4,c1,oL ls];refine bY (S3) ?_;generalize lZ s=rb at *;cases rb
  . rw[if_pos rfl] at hV;simp only[↓zP,zJ,seval,w4,w6,c1,c3,oL ls];refine⟨rfl,_,by simp only[↓zP,zR,seval,w6];rfl,?_⟩;subst hV;exact⟨_,2,rfl,fun nw=>sS _ _ nw⟩
  rw[if_neg (by decide)] at hV;refine Ty ?_;refine bR ?_;refine bV fun f2 FY=>?_;have v3:=Ks FY w3;have v4:=Ks FY w4;have v5:=Ks FY w5;have v6:=Ks FY w6;have v7:=Ks FY w7;have v9:=Ks FY w9;clear FY w3 w4 w5 w6 w7 w9;obtain⟨fid,ix,HD,Xa,S5,A5⟩:=Nn (g:=g) (r0:=r0) (r1:=r1) hs hy mK mF nF wE (fun q h=>(hq q h).1) hc h7 h8 e9 M3 (by omega) (by omega);have d1:=(A5.CE 1 (by omega) (by omega)).trans e1;have d3:=(A5.CE 3 (by omega) (by omega)).trans e3;have d9:=(A5.CE r9 (by omega) (by omega)).trans e9;have dn:=A5.next;have M5:=A5.mem;have K5:=IL (k:=k) (n:=n) hs hy hq hc;generalize CY ts rs us k n qs s=R at *;refine bQ ?_;refine bQ ?_;refine Dz ?_;apply iQ (hS:=S4)
  . decide
  . rfl
  . omega
  . intro x hx;cases hx
  have kO:HT .i (.int .i64 k)=true:=rfl;simp only[↓zP,zJ,seval,zD,v3,v5,e0,e2,c0,c2,k0,l3,oL l6,oL l3,m4,kO,Xa];refine dw (fid:=fid) (fs:=[]) (cs:=[]) (by decide) Zaq (by simp only[Cb,Fo,Db,Ch,dS,zB,seval];rw[v9]) S5 dn ?_ ?_
  . simp only[zD,reduceCtorEq];exact⟨fun h=>absurd h (by decide),fun h=>absurd h (by decide),fun h=>absurd h (by decide),fun h=>absurd h (by decide)⟩
  simp only[↓zP,zJ,seval,zD];refine bR ?_;refine bV fun f1 mT=>?_;have w4:=Ks mT v4;have w6:=Ks mT v6;have w7:=Ks mT v7;have w9:=Ks mT v9;have w10:f1 10=.int .i64 R.1:=by subst mT;simp only[zB,seval]
  clear mT v3 v4 v5 v6 v7 v9;by_cases hx:R.1=0;rotate_left
  . have hb:(R.1 != 0)=true:=Dd.2 hx;rw[if_pos hx] at hV;simp only[↓zP,zJ,seval,hb,w4,w6,w10,d1,d3,oL ls];refine⟨rfl,_,by simp only[↓zP,zR,seval,w6];rfl,?_⟩;subst hV;exact⟨_,2,rfl,fun nw=>sS _ _ nw⟩
  have hb:(R.1 != 0)=false:=bne_eq_false_iff_eq.2 hx;rw[if_neg (not_not_intro hx)] at hV;simp only[↓zP,zG,seval,hb,w10];refine bR ?_;simp only[↓zP,zJ,seval,w6,w9,d3,d9];refine⟨rfl,_,by simp only[↓zP,zR,seval,w6];rfl,?_⟩;subst hV;rw[hmV];exact⟨_,2,rfl,fun nw=>(st M5).shut (fun p h=>(K5.p7 p h).1) (fun p h=>(K5.v3 p h).1) (fun p h=>(K5.w3 p h).1) 0 nw⟩
 have okS:∀{H:aA} {lo hi:Nat} {t:Sc},fU H lo hi a b c d e f t->Kept s t->(VK a b c d e f t).OK:=fun M K=>M.ok K.p7 K.v3 K.w3 (by rw[K.st];exact hs.bD) (by rw[K.ps];exact hs.lps) (by rw[K.vs];exact hs.zc) (by rw[K.ws];exact hs.zd) (by rw[K.ta];exact hs.lta) (by rw[K.ac];exact hs.lac);unfold vT;by_cases hc:lR ts.length rs.length us.length k n qs=0;rotate_left
 . rw[if_pos hc] at hV ⊢;exact Zax
 rw[if_neg (not_not_intro hc)] at hV ⊢;by_cases h78:k=7\/k=8
 . rw[if_pos h78] at hV ⊢;subst hV;rw[hmV] at hW;exact⟨VK a b c d e f s,okS M2 (Kept.refl hs),⟨rfl,rfl,rfl,rfl,rfl,rfl⟩,fun H=>M2.wk (hW H)⟩
 rw[if_neg h78] at hV ⊢;by_cases hr:lZ s=false
 . rw[if_pos hr] at hV ⊢;exact Zax
 rw[if_neg hr] at hV ⊢;by_cases hx:(CY ts rs us k n qs s).1=0;rotate_left
 . rw[if_pos hx] at hV ⊢;exact Zax
 rw[if_neg (not_not_intro hx)] at hV ⊢;subst hV;rw[hmV] at hW;obtain⟨fid,ix,HD,Xa,S5,A5⟩:=Nn (g:=g) (r0:=r0) (r1:=r1) hs hy mK mF nF wE (fun q h=>(hq q h).1) hc (fun h=>h78 (.inl h)) (fun h=>h78 (.inr h)) e9 M3 (by omega) (by omega);exact⟨VK a b c d e f (CY ts rs us k n qs s).2,okS A5.mem (IL hs hy hq hc),⟨rfl,rfl,rfl,rfl,rfl,rfl⟩,fun H=>by rw[hx];exact A5.mem.wk (hW H)⟩
theorem cm {s:Sc} (h:lZ s=true):(∀w∈s.vs,w=zV)/\∀w∈s.ws,w=zV:=by simp only[lZ,IG,Al,Da,Bool.not_eq_eq_eq_not,Gw,Bh,Ic] at h;exact⟨fun w hw=>by simpa using h.1 w hw,fun w hw=>by simpa using h.2 w hw⟩
theorem HI {l:List (List Int)} {i:Nat} (h:∀w∈l,w=zV) (hi:i<l.length):l.getD i []=zV:=by rw[show l.getD i []=l[i] by simp[hi]];exact h _ (Ac hi)
theorem aBr {l:List (List Int)} {i:Nat} (h:∀w∈l,w=zV):l.set i zV=l:=by
 apply Fs (Bx ..);intro j h1 h2;rw[List.getElem_set];split
 . exact(h _ (Ac h2)).symm
 rfl
theorem Lb {s:Sc} {m:Nat} {x:List Int} (h:lZ s=true):xX s m x={s with st:=s.st.set m true,ps:=s.ps.set m x}:=by obtain⟨h1,h2⟩:=cm h;unfold xX;rw[show([0,0,0]:List Int)=zV from rfl,aBr h1,aBr h2]
theorem PD:∀{seen:List (List UInt8)} {ts:List Th},MC seen ts=0->∀t∈ts,hU t.store=0
 |_,[],_,t,ht=>by cases ht
 |seen,x::ts,h,t,ht=>by
  unfold MC at h;split at h
  . rename_i h1;exact absurd h h1
  rename_i h1;split at h
  . cases h
  rcases Am.1 ht with rfl|ht
  . simp only[Ic] at h1;unfold WX at h1;split at h1
    . cases h1
    rename_i h2;by_cases h3:hU t.store=0
    . exact h3
    exact absurd (.inr h3) h2
  exact PD h t ht
theorem gh {nT nR nP:Nat} {k n:Int} {qs:List (List Int)} (h:lR nT nR nP k n qs=0) {i:Nat} (hi:i<qs.length):hU qs[i]=0:=by
 unfold lR at h;split at h
 . cases h
 split at h
 . cases h
 split at h
 . cases h
 rename_i h1;simp only[Ei,Da,Ay] at h1;have :=h1 i hi;simp only[mO,Cy] at this;have h2:=this.1;rw[show qs.getD i []=qs[i] by simp[hi]] at h2;simpa using h2
theorem aJq (m:Int) (h:0<=m):CA m zV=true:=by simp only[CA,zV,Ik,List.all_nil,Fb,Cp,Bd];omega
theorem Wt {q p:List Int} (h:hU q=0):Ws q p zV zV true=false:=by unfold Ws;rw[h,aJq _ (by decide)];rfl
theorem LB {q:List Int} (h:hU q=0):Ws q q zV zV false=false:=by unfold Ws;rw[h,aJq _ (by decide)];simp
theorem getD_set_ne {α:Type} {l:List α} {i j:Nat} {x d:α} (h:i≠j):(l.set i x).getD j d=l.getD j d:=by simp[List.getD,h]
theorem uN {α:Type} {l:List α} {i:Nat} {x d:α} (h:i<l.length):(l.set i x).getD i d=x:=by simp[List.getD,h]
theorem um {ts:List Th} {r u:Nat} {s t:Sc} (h:nJ ts r u s=true) (hk:Kept s t) (hb:∀i,i<ts.length->CP ts s i=false->CP ts t i=false):nJ ts r u t=true:=by
 have h1:FH ts.length r u s=false:=by
  cases e:FH ts.length r u s with
  |false=>rfl
  |true=>rw[BR e] at h;cases h
 refine KA ?_ fun i hi=>hb i hi ?_
 . unfold FH at h1 ⊢;rw[hk.st,hk.ps,hk.vs,hk.ws,hk.ta,hk.ac];exact h1
 cases e:CP ts s i with
 |false=>rfl
 |true=>rw[Ud hi e] at h;cases h
theorem fp {ts:List Th} {rs us:List (List Int)} {k n:Int} {qs:List (List Int)} {s:Sc} (hs:s.OK) (hy:YS ts rs us s) (hq:∀q∈qs,q.length=7/\lC q) (gV:∀t∈ts,hU t.store=0) (h:nJ ts rs.length us.length s=true):nJ ts rs.length us.length (vT ts rs us k n qs s).2=true:=by
 have K:=JU (k:=k) (n:=n) hs hy hq;revert K;unfold vT;split
 . exact fun _=>h
 rename_i h0;simp only[Ic] at h0;split
 . exact fun _=>h
 split
 . exact fun _=>h
 rename_i Zr;simp only[Bool.not_eq_false] at Zr;obtain⟨z1,z2⟩:=cm Zr;split
 . exact fun _=>h
 intro K;refine um h K fun i hi=>?_;have e1:=hy.st;have e2:=hy.ps;have e3:=hy.vs;have e4:=hy.ws;unfold CY;split
 . rename_i h1;split
   . exact id
   obtain⟨n1,n2,q1,q2⟩:1<=n/\n<=ts.length/\2<=qs.length/\qs.length<=32:=by
    rcases uZ h0 with ⟨_,h⟩|⟨h,_⟩|⟨h,_⟩|h|h
    . exact h
    all_goals (exfalso;omega)
   unfold CP;rw[Lb Zr];by_cases hm:n.toNat -1=i
   . intro _;subst hm;dsimp only;rw[uN (by omega),uN (by omega),HI z1 (by omega),HI z2 (by omega),show qs.getD (qs.length -1) []=qs[qs.length -1] by simp[show qs.length -1<qs.length by omega]];exact Wt (gh h0 (by omega))
   dsimp only;rw[getD_set_ne hm,getD_set_ne hm];exact id
 split
 . dsimp only;split
   . unfold CP CJ;by_cases hm:n.toNat -1=i
     . intro _;subst hm;dsimp only;rw[uN (by omega),uN (by omega),HI z1 (by omega),HI z2 (by omega),show(ts.map (·.store)).getD (n.toNat -1) []=ts[n.toNat -1].store by simp[hi]];exact LB (gV _ (Ac hi))
     dsimp only;rw[getD_set_ne hm,getD_set_ne hm];exact id
   exact id
 split
 . split<;>exact id
 split
 . split<;>exact id
 split
 . split<;>exact id
 split<;>exact id
theorem s9 {g r0 r1:Int} {ts:List Th} {rs us:List (List Int)} (h:CQ g r0 r1 ts rs us=0):
 ts.length<=64/\rs.length<=16/\us.length<=16/\(∀t∈ts,hU t.store=0)/\(∀r∈rs,PX ts.length r=false)/\∀r∈us,PW ts.length r=false:=by
 unfold CQ at h;split at h
 . cases h
 rename_i h1;simp only[LY,Ei,Cy,Bh] at h1;split at h
 . cases h
 split at h
 . rename_i h3;exact absurd h h3
 rename_i h3;simp only[Ic] at h3;split at h
 . cases h
 rename_i h4;split at h
 . cases h
 rename_i h5;simp only[Ei,Da] at h4 h5;exact⟨by omega,by omega,by omega,PD h3,fun r hr=>by simpa using h4 r hr,fun r hr=>by simpa using h5 r hr⟩
theorem fq {n:Int} {r:List Int} (h:PX n r=false):(0<=r.getD 0 0/\r.getD 0 0<=n)/\0<=r.getD 1 0/\r.getD 1 0<=n:=by simp only[PX,Cy,Bh] at h;omega
theorem sk {n:Int} {r:List Int} (h:PW n r=false):1<=r.getD 0 0/\r.getD 0 0<=n:=by simp only[PW,Cy,Bh] at h;omega
theorem aUr {g r0 r1:Int} {ts:List Th} {rs us:List (List Int)} {s:Sc} (ht:∀t∈ts,t.OK) (hr:∀r∈rs,r.length=8) (hu:∀p∈us,p.length=10) (hc:CQ g r0 r1 ts rs us=0) (hf:nJ ts rs.length us.length s=true):YS ts rs us s:=by
 obtain⟨c1,c2,c3,_,c5,c6⟩:=s9 hc
 have hl:FH ts.length rs.length us.length s=false:=by
  cases e:FH ts.length rs.length us.length s with
  |false=>rfl
  |true=>rw[BR e] at hf;cases hf
 obtain⟨l1,l2,l3,l4,l5,l6⟩:=Sy hl;exact⟨ht,hr,hu,by omega,by omega,by omega,l1,l2,l3,l4,l5,l6,fun r h=>fq (c5 r h),fun r h=>by have :=sk (c6 r h);omega⟩
theorem YS.kept {ts:List Th} {rs us:List (List Int)} {s t:Sc} (h:YS ts rs us s) (hk:Kept s t):YS ts rs us t:=
 ⟨h.ht,h.hr,h.hu,h.xQ,h.CV,h.Zs,hk.st.trans h.st,hk.ps.trans h.ps,hk.vs.trans h.vs,hk.ws.trans h.ws,hk.ta.trans h.ta,hk.ac.trans h.ac,h.aBc,h.push⟩
def Ub (t:Th):Bool:= !decide ((t.ps.length:Int)>2)&&t.ps.all fun p=> !decide ((p.2.length:Int)>10)
def RJ (n r u:Nat):Bool:=decide ((n:Int)>6)||(decide ((r:Int)>20)||decide ((u:Int)>20))
def Uc (ts:List Th) (r u:Nat):Bool:= !RJ ts.length r u&&ts.all Ub
theorem ug {ts:List Th} {r u:Nat} (h:Uc ts r u=true):ts.length<=6/\r<=20/\u<=20/\∀t∈ts,t.Few:=by simp only[Uc,RJ,Al,Cn,Cy,Bh,Aw] at h;refine⟨by omega,by omega,by omega,fun t ht=>?_⟩;have h2:=h.2 t ht;simp only[Ub,Al,Cn,Bh,Aw] at h2;exact⟨by omega,fun p hp=>by have :=h2.2 p hp;omega⟩
theorem aRt {g r0 r1:Int} {ts:List Th} {rs us:List (List Int)} {tv rv uv:AV} (mK:fO tv 14 (nD ts)) (mF:fO rv 8 (aZ rs)) (nF:fO uv 10 (aZ us)) (ht:∀t∈ts,t.OK) (H:aA):
 Sg 12 [.agg (yC g r0 r1 tv rv uv)] H (.ret (.bool (Uc ts rs.length us.length))) H:=by
 refine So bHa Zbm ?_ H;unfold W12;dsimp only;have lt:=mK.len;have lr:=mF.len;have lu:=nF.len;simp only[dA] at lt lr lu;rw[dJ] at lt;rw[aS] at lr lu;have hY:Uc ts rs.length us.length=(!RJ ts.length rs.length us.length&&ts.all Ub):=rfl
 have h6:RJ ts.length rs.length us.length=false->ts.length<=6:=fun h=>by simp only[RJ,Cy,Bh] at h;omega
 unfold RJ at hY h6;generalize eQ:decide ((ts.length:Int)>6)=b1 at *;generalize gJ:decide ((rs.length:Int)>20)=b2 at *;generalize KH:decide ((us.length:Int)>20)=b3 at *;refine bQ ?_;simp only[↓zP,zJ,seval,yC];refine bR ?_;refine aN fun K hK=>?_;cases b1<;>cases b2<;>cases b3;rotate_left
 iterate 7 (simp only[↓zP,zJ,seval,lt,lr,lu,eQ,gJ,KH];refine Rx ?_;rw[hY];rfl)
 have h6:=h6 rfl;simp only[↓zP,zJ,seval,lt,lr,lu,eQ,gJ,KH];apply hK;clear hK K eQ gJ KH;generalize hX:(aA.mk 0 .nil).alloc _=HA;have g0:HA.get 0=some (.cells [.int .i64 g,.int .i64 r0,.int .i64 r1,tv,rv,uv] false):=by subst hX;simp only[zI,seval]
 clear hX;refine bV fun f dQ=>?_;have f1:f 1=.ref 0 0:=by subst dQ;simp only[zB,seval]
 clear dQ
 have fS:∀{i:Nat} (hi:i<ts.length),Ub ts[i]=false->Uc ts rs.length us.length=false:=fun hi h=>by rw[hY,El.2 ⟨_,Ac hi,by rw[h];decide⟩];rfl
 have xR:(∀t∈ts,Ub t=true)->Uc ts rs.length us.length=true:=fun h=>by rw[hY,Aw.2 h];rfl
 clear hY;refine aN fun K hK=>?_;refine Tz ?_;refine bP [] (fun i vs H'=>H'=HA/\∀t∈ts.take i,Ub t=true) 0 ts.length (Az _) (by omega) (by decide) ?_ ?_ ?_ ?_ ?_
 . exact zq
 . exact⟨rfl,fun p hp=>by simp at hp⟩
 . rintro i f4 H1 h0 hi hk e1 ⟨rfl,_⟩;have u1:f4 1=.ref 0 0:=by rw[hk 1 rfl];simp only[zB,seval];exact f1
   simp only[↓zP,zJ,seval,e1,u1,g0,lt];exact Zae
 . rintro i f4 H1 h0 hi hk e1 ⟨rfl,bU⟩;have u1:f4 1=.ref 0 0:=by rw[hk 1 rfl];simp only[zB,seval];exact f1
   have xQ:tv=.bD 0 14 (nD ts):=mK.bD (i:=i) (by rw[dJ];exact hi);have hg:=mN hi;have qP:=ht _ (Ac hi);have gV:=List.qU hi bU;have fS:=fS hi;have MQ:=Th.len qP;have k2:List.drop 1 (List.drop 1 ts[i].cs)=ts[i].pv::ts[i].cs.drop 3:=rfl
   have hpr:fO ts[i].pv 1 (Mb ts[i].ps):=by
    rcases qP.parts with ⟨h1,h2⟩|h
    . exact .inl ⟨h1,by rw[h2];rfl⟩
    exact .inr h
   have Uu:=qP.part;generalize ts[i]=t at *;have lpv:=hpr.len;simp only[dA] at lpv;have Tj:(Mb t.ps).length=t.ps.length:=Af _;rw[Tj] at lpv;refine aJ ?_;refine bQ ?_;have hT:Ub t=(!decide ((t.ps.length:Int)>2)&&t.ps.all fun p=> !decide ((p.2.length:Int)>10)):=rfl;cases eQ:decide ((t.ps.length:Int)>2);rotate_left
   . simp only[↓zP,zJ,seval,e1,u1,g0,xQ,aB,dJ,hi,hg,k2,lpv,eQ];refine Rx ?_;rw[fS (by rw[hT,eQ];rfl)];rfl
   have h2:=Dn eQ;simp only[↓zP,zJ,seval,e1,u1,g0,xQ,aB,dJ,hi,hg,k2,lpv,eQ];refine bR ?_;rw[eQ] at hT;refine Tz ?_;refine bP [] (fun j vs H'=>H'=H1/\∀p∈t.ps.take j,(!decide ((p.2.length:Int)>10))=true) 0 t.ps.length (Az _) (by omega) (by decide) ?_ ?_ ?_ ?_ ?_
   . exact zq
   . exact⟨rfl,fun p hp=>by simp at hp⟩
   . rintro j f5 H2 Nl hj eP e2 ⟨rfl,_⟩;have v1:f5 1=.ref 0 0:=ZaV;have v3:f5 3=.int .i64 i:=Zbk;simp only[↓zP,zJ,seval,e2,v1,v3,g0,xQ,aB,dJ,hi,hg,k2,lpv];exact Zae
   . rintro j f5 H2 Nl hj eP e2 ⟨rfl,rA⟩;have v1:f5 1=.ref 0 0:=ZaV;have v3:f5 3=.int .i64 i:=Zbk;have k2':t.pv=.bD 0 1 (Mb t.ps):=hpr.bD (i:=j) (by rw[Tj];exact hj);have hgj:(Mb t.ps).getD j []=[t.ps[j].1]:=(by simp[Mb,hj]);have Sa:=Uu _ (Ac hj);have j7:=List.qU hj rA
     have Xg:(!decide ((t.ps[j].2.length:Int)>10))=false->Ub t=false:=fun h=>by rw[hT,El.2 ⟨_,Ac hj,by rw[h];decide⟩];rfl
     generalize t.ps[j]=q at *
     have lq:∀H:aA,dA (fun _=>q.1) H (.OF (.tmp 0))=some (.int .i64 q.2.length,H):=fun H=>by
      rcases Sa with ⟨h1,h2⟩|h1
      . rw[h1,h2];rfl
      rw[h1];simp[dA,aU]
     simp only[dA] at lq;refine aJ ?_;cases gJ:decide ((q.2.length:Int)>10)
     . rw[gJ] at j7;simp only[↓zP,zJ,seval,e2,v1,v3,g0,xQ,aB,dJ,hi,hg,k2,k2',Tj,hj,hgj,lq,gJ];exact⟨trivial,j7 rfl⟩
     rw[gJ] at Xg;simp only[↓zP,zJ,seval,e2,v1,v3,g0,xQ,aB,dJ,hi,hg,k2,k2',Tj,hj,hgj,lq,gJ];refine Rx ?_;rw[fS (Xg rfl)];rfl
   rintro f5 H2 eP ⟨rfl,rA⟩;rw[Ax] at rA;refine Tx ?_;exact⟨trivial,gV (by rw[hT,Aw.2 rA];rfl)⟩
 rintro f4 H1 hk ⟨rfl,bU⟩;rw[Ax] at bU;refine Tx ?_;apply hK;clear hK K;refine Tz ?_;refine Rx ?_;rw[xR bU];rfl
theorem aFq {l:List Int} {i:Nat} (hi:i<l.length):(iU l).getD i []=[.int .i64 l[i]]:=by simp[iU,hi]
theorem Sn (l:List Int):∀e∈iU l,bO e=true:=fun e he=>by obtain⟨w,_,rfl⟩:=Bf.1 he;rfl
theorem oZ.bDo {H H':aA} {sz:Nat} {v:AV} {bB:List (List AV)} (h:oZ H sz v bB) (hn:H.next<=H'.next) (ho:∀j,j<H.next->H'.get j=H.get j):oZ H' sz v bB:=by
 refine⟨?_,h.2⟩
 rcases h.1 with h1|⟨k,h1,h2,h3⟩
 . exact .inl h1
 exact .inr ⟨k,h1,by omega,by rw[ho _ h2];exact h3⟩
theorem _root_.Go.Av.Own.Xy {H:aA} {sz:Nat} {v:AV} {bB:List (List AV)} (ho:Own H sz v bB) {id:Nat} {cs:List AV} {o:Bool} (h:H.get id=some (.cells cs o)):sF v≠some id:=fun e=>by
 rcases ho with ⟨rfl,_⟩|⟨k,rfl,_,hk⟩
 . cases e
 cases e;rw[h] at hk;cases hk
theorem _root_.Go.Av.Wh.cells {H H':aA} {sz:Nat} {v:AV} {bB:List (List AV)} (hg:Wh H H' v) (ho:Own H sz v bB) {id:Nat} {cs:List AV} {o:Bool} (dC:id<H.next) (h:H.get id=some (.cells cs o)):H'.get id=some (.cells cs o):=by rw[hg.get id (ho.Xy h) dC,h]
theorem _root_.Go.Av.oZ.one {H:aA} {sz:Nat} {v:AV} {bB:List (List AV)} (h:oZ H sz v bB):v.cells=[v]/\v.yN=false/\v.cells.length=1:=by rcases h.1 with ⟨rfl,_⟩|⟨k,rfl,_⟩<;>exact⟨rfl,rfl,rfl⟩
theorem fO.aIz {v:AV} {l:List Int} (h:fO v 1 (iU l)):v.free=true:=h.free (Sn _)
def W91:CW Tryz.f91:=⟨_,cX⟩
theorem bIo:Fi 91 W91:=cM Tryz.func91 W91
def W51:CW Tryz.f51:=⟨_,cX⟩
theorem bHx:Fi 51 W51:=cM Tryz.func51 W51
def W18:CW Tryz.f18:=⟨_,cX⟩
theorem bHe:Fi 18 W18:=cM Tryz.func18 W18
def W49:CW Tryz.f49:=⟨_,cX⟩
theorem bHu:Fi 49 W49:=cM Tryz.func49 W49
def W52:CW Tryz.f52:=⟨_,cX⟩
theorem bHy:Fi 52 W52:=cM Tryz.func52 W52
def W92:CW Tryz.f92:=⟨_,cX⟩
theorem bIp:Fi 92 W92:=cM Tryz.func92 W92
def W50:CW Tryz.f50:=⟨_,cX⟩
theorem bHw:Fi 50 W50:=cM Tryz.func50 W50
def W53:CW Tryz.f53:=⟨_,cX⟩
theorem bHz:Fi 53 W53:=cM Tryz.func53 W53
def W20:CW Tryz.f20:=⟨_,vF⟩
theorem bHf:Fi 20 W20:=cM Tryz.func20 W20
def W10:CW Tryz.f10:=⟨_,cX⟩
theorem bGz:Fi 10 W10:=cM Tryz.func10 W10
def rK (z:Nat):List Nat:=if z<=127 then [z] else(z%128+128)::rK (z / 128)
termination_by z
def QD (n:Int):Nat:=if 0<=n then(2*n).toNat else(-2*n -1).toNat
theorem BK {n:Int} (h:JF n):QD n<2^64:=by unfold JF at h;unfold QD;split<;>omega
theorem WA:∀(k z:Nat),z<128^(k+1)->(rK z).length<=k+1
 |0,z,h=>by rw[rK,if_pos (by omega)];simp
 |k+1,z,h=>by
  rw[rK];split
  . simp
  have :=WA k (z / 128) (by rw[Eg] at h;omega);simp only[As];omega
theorem mC {z:Nat} (h:z<2^64):(rK z).length<=10:=WA 9 z (by omega)
theorem JC (z:Nat):rK z≠[]:=by rw[rK];split<;>simp
theorem wrap_u64 {x:Int} (h0:0<=x) (h1:x<2^64):IntKind.u64.wrap x=x:=by simp only[IntKind.wrap,IntKind.bits,IntKind.signed];simp;omega
theorem lo7 {m:Nat} (h:m<=127):IntKind.u8.wrap ↑m=((m:Nat):Int):=by simp only[IntKind.wrap,IntKind.bits,IntKind.signed];simp;omega
theorem sV {l:List Nat} (h:l≠[]):dI l≠[]:=by simpa [dI] using h
theorem cj {n:Int} (hn:JF n) (H:aA):Sg 91 [.int .i64 n] H (.ret (.bD (H.next+2) 1 (dI (rK (QD n))))) (H.alloc .tok):=by
 have hz:=BK hn;have JJ:=hn;unfold JF at JJ;refine mG eZ rfl (sV (JC _)) (kX _) (cZ fit bIo (Ai rfl) ?_ (by rfl)) H;unfold W91;dsimp only;refine bQ ?_;refine Tz ?_;refine fF ?_;refine Ty ?_;refine bR ?_;refine aN fun K hK=>?_
 have key:∀f:dE,f 3=.int .u64 (QD n)->K f [] ⟨0,.nil⟩:=by
  intro f f3;apply hK;clear hK K;refine bQ ?_;refine Tz ?_;refine bR ?_;refine aN fun K hK=>?_;refine aJ (iP [3,4] (fun m vs H=>∃(v:AV) (pre:List Nat),vs=[.int .u64 m,v]/\m<2^64/\Own H 1 v (dI pre)/\pre++rK m=rK (QD n)) (QD n) (by rfl) ?_ ?_)
  . exact⟨.aO,[],by simp only[sm,zB,seval,f3],hz,.nil _ _,by simp⟩
  rintro m f4 H1 hk ⟨v,pre,oU,fJ,aFk,aSq⟩;simp only[zM] at oU;obtain⟨v3,v4⟩:=oU;have Xb:=mC hz;rw[<-aSq,Ba] at Xb;by_cases LQ:m≥128
  . have d1:=Aj (show(m:Int)≥128 by omega);have GA:rK m=(m%128+128)::rK (m / 128):=by rw[rK,if_neg (by omega)]
    have w1:IntKind.u8.wrap ((m:Int).tmod 128)=((m%128:Nat):Int):=by rw[Et (by omega),JD rfl];simp only[IntKind.bits];omega
    have w2:IntKind.u8.wrap (((m%128:Nat):Int)+128)=((m%128+128:Nat):Int):=by rw[JD rfl];simp only[IntKind.bits];omega
    have w3:IntKind.u64.wrap ((m:Int).tdiv 128)=((m / 128:Nat):Int):=by rw[Fz (by omega),JD rfl];simp only[IntKind.bits];omega
    have yV:∀l:List Nat,(dI l).length=l.length:=fZ;obtain⟨v',H',ha,e2,e3⟩:=aFk.append (bytes:=1) (ys:=dI [m%128+128]) (by rw[GA] at Xb;simp only[fZ,As,Bm] at Xb ⊢;omega);simp only[dI,Cb,Fo] at ha;refine bQ ?_;simp only[↓zP,zG,seval,v3,d1];refine bR ?_;refine aJ ?_;refine bQ ?_;simp only[↓zP,zJ,seval,v3,v4,show ¬((128:Int)=0) by decide,w1,w2,eL,ha];refine bR ?_;simp only[↓zP,zJ,seval,v3,show ¬((128:Int)=0) by decide,w3];exact⟨m / 128,by omega,v',pre++[m%128+128],by simp only[seval],by omega,by rw[iF];exact e2,by rw[<-aSq,GA];simp⟩
  have d1:=Ag (show ¬(m:Int)≥128 by omega);have hle:m<=127:=by omega
  have GA:rK m=[m]:=by rw[rK,if_pos hle]
  obtain⟨v',H',ha,e2,e3⟩:=aFk.append (bytes:=1) (ys:=dI [m]) (by rw[GA] at Xb;simp only[fZ,As,Bm] at Xb ⊢;omega);simp only[dI,Cb,Fo] at ha;simp only[↓zP,zG,seval,v3,d1];apply hK;clear hK K;simp only[↓zP,zJ,seval,v3,v4,lo7 hle,eL,dI,ha];refine Rx ?_;refine⟨v',rfl,?_⟩;rw[<-aSq,GA];show Own H' 1 v' (dI (pre++[m]));rw[iF];exact e2
 by_cases aFg:n<0
 . have d1:=Aj aFg;have w1:IntKind.i64.wrap (-1 -n)= -1 -n:=wrap_i64 (by omega) (by omega);have w2:IntKind.u64.wrap (-1 -n)= -1 -n:=wrap_u64 (by omega) (by omega);have w3:IntKind.u64.wrap ((-1 -n)*2)=(-1 -n)*2:=wrap_u64 (by omega) (by omega)
   have w4:IntKind.u64.wrap ((-1 -n)*2+1)=(QD n:Int):=by rw[wrap_u64 (by omega) (by omega)];unfold QD;rw[if_neg (by omega)];omega
   simp only[↓zP,zJ,seval,d1,w1,w2,w3,w4];exact key _ zq
 have d1:=Ag aFg;have w2:IntKind.u64.wrap n=n:=wrap_u64 (by omega) (by omega)
 have w4:IntKind.u64.wrap (n*2)=(QD n:Int):=by rw[wrap_u64 (by omega) (by omega)];unfold QD;rw[if_pos (by omega)];omega
 simp only[↓zP,zJ,seval,d1,w2,w4];exact key _ zq
def eU (l:List Int):List Nat:=rK (QD l.length)++l.flatMap fun x=>rK (QD x)
theorem NY (l:List Int):eU l≠[]:=by unfold eU;intro h;exact JC _ (List.append_eq_nil_iff.1 h).1
theorem KC {α:Type} {l:List α} {i:Nat} (f:α->List Nat) (hi:i<l.length):(l.take (i+1)).flatMap f=(l.take i).flatMap f++f l[i]:=by rw[An,Ad hi,It];simp
theorem tM:∀{l:List Int},(∀x∈l,JF x)->(l.flatMap fun x=>rK (QD x)).length<=10*l.length
 |[],_=>by simp
 |x::l,h=>by have h1:=tM (l:=l) fun y hy=>h y (Au _ hy);have h2:=mC (BK (h x Ar));rw[Fe,Ba,As];omega
theorem BN {n:Nat} (h:n<2^62):JF (n:Int):=by unfold JF;omega
theorem YP {v:AV} {l:List Int} (hv:fO v 1 (iU l)) (hr:∀x∈l,JF x) (hl:l.length<2^33) (H:aA):Sg 51 [v] H (.ret (.bD (H.next+2) 1 (dI (eU l)))) (H.alloc .tok):=by
 refine mG eZ (by simp only[bO,hv.aIz];rfl) (sV (NY _)) (kX _) (cZ fit bHx (Ai rfl) ?_ (by rfl)) H;unfold W51;dsimp only;have lv:=hv.len;simp only[dA] at lv;rw[iD] at lv;have hn:=cj (BN (n:=l.length) (by omega));refine bQ ?_;refine Tz ?_;refine fF ?_;simp only[↓zP,zJ,seval,lv];refine bY (hn _) ?_;refine Ty ?_;refine bR ?_;refine aN fun K hK=>?_;refine Tz ?_;refine bP [3] (fun i vs H'=>∃w,vs=[w]/\Own H' 1 w (dI (rK (QD l.length)++(l.take i).flatMap fun x=>rK (QD x)))) 0 l.length (Az _) (by omega) (by decide) ?_ ?_ ?_ ?_ ?_
 . exact zq
 . exact⟨_,by simp only[sm,zB,seval];rfl,by simp only[Fc,List.flatMap_nil,Ch];exact Own.fresh _ _ _⟩
 . rintro i f H1 h0 hi hk e1 _;have f0:f 0=v:=by rw[hk 0 rfl];rfl
   simp only[↓zP,zG,seval,e1,f0,lv];exact Zae
 . rintro i f H1 h0 hi hk e1 ⟨w,oU,ho⟩;simp only[zM] at oU;have f0:f 0=.bD 0 1 (iU l):=(hk 0 rfl).trans (hv.bD (i:=i) (by rw[iD];exact hi));have hg:=aFq hi;have hx:=hr _ (Ac hi);have hc:=cj hx;have Sm:=mC (BK hx);have vD:=tM (l:=l.take i) fun x hx=>hr x (By hx);rw[Cz] at vD;have hnl:=mC (BK (BN (n:=l.length) (by omega)));rw[KC _ hi,<-Ek,iF];generalize l[i]=x at *;refine aJ ?_;simp only[↓zP,zJ,seval,e1,f0,oU,aB,iD,hi,hg];refine bY (hc _) ?_;obtain⟨w',H',ha,e2,e3⟩:=(ho.alloc .tok).append (bytes:=1) (ys:=dI (rK (QD x))) (by simp only[fZ,Ba];omega);simp only[↓zP,zG,seval,cK,ha];exact⟨w',by simp only[seval],e2⟩
 rintro f H1 hk ⟨w,oU,ho⟩;exact Za6
def iT (n:Nat):List Bool:=List.replicate n false
def nM (n:Nat):List (List Int):=List.replicate n zV
def gW (ts:List Th):List (List Int):=ts.map (·.store)
def iW (ts:List Th) (r u:Nat):Sc:=⟨.bD 0 1 (bE (iT ts.length)),Oq 7 (aZ (gW ts)),.bD 0 3 (aZ (nM ts.length)),.bD 0 3 (aZ (nM ts.length)),.bD 0 1 (bE (iT r)),.bD 0 1 (bE (iT u)),
 iT ts.length,gW ts,nM ts.length,nM ts.length,iT r,iT u⟩
theorem Ri {ts:List Th} {r u:Nat} (ht:∀t∈ts,t.OK) (hn:ts.length<2^30) (hr:r<2^30) (hu:u<2^30):(iW ts r u).OK:=by
 have hz:∀w∈nM ts.length,w.length=3/\lC w:=fun w hw=>by obtain⟨_,rfl⟩:=List.mem_replicate.1 hw;exact⟨rfl,fun x hx=>by simp[zV] at hx;subst hx;decide⟩
 refine⟨.inr rfl,wV _ _,.inr rfl,.inr rfl,.inr rfl,.inr rfl,fun p hp=>?_,hz,hz,?_,?_,?_,?_,?_,?_⟩
 . obtain⟨t,h,rfl⟩:=Bf.1 hp;exact⟨(ht t h).store,(ht t h).i64⟩
 all_goals simp only[iW,iT,nM,gW,Jy,Af];assumption
theorem NM {sz:Nat} {z:List AV} (hz:z.length=sz):∀n,fI sz n (List.replicate n z).flatten=List.replicate n z
 |0=>rfl
 |n+1=>by simp only[Dx,Bl,fI];rw[Ce (by omega),Aq (by omega),Hj,Gs (by omega),hz,Nat.sub_self];simp[NM hz n]
theorem Ui {sz:Nat} {z:List AV} (hz:z.length=sz):∀n,(List.replicate n z).flatten.length=n*sz
 |0=>by simp
 |n+1=>by simp[Dx,Ui hz n,hz,Dw,Fa]
theorem Vh {z:List AV} (hf:bO z=true):∀n,bO (List.replicate n z).flatten=true
 |0=>rfl
 |n+1=>by rw[Dx,Bl,gD,hf,Vh hf n];rfl
theorem yE {H:aA} {id sz n:Nat} {z:List AV} {o:Bool} (hz:z.length=sz) (hf:bO z=true) (hg:H.get id=some (.cells (List.replicate n z).flatten o)) (nw:Nat):fG H none nw 0 (.sl id sz 0 n n)=some (.bD 0 sz (List.replicate n z)):=by
 have h1:H.eS id=some (List.replicate n z).flatten:=by simp only[aA.eS,hg]
 have hb:Nat.ble (n*sz) (n*sz)=true:=Jw (Ab _);simp only[fG,fA,h1,Ee,Cq,Ui hz,hb,Vh hf,Cp,NM hz]
theorem xE {P:Program} {g:bG} {n:Nat} {pairs:List (Nat×Nat)} {base i k:Nat} {rs:List bK} {rd:List (Nat×Nat)} {ef:List (Nat×aA×aA)} {f:dE} {H:aA} {R:dE->aA->Prop} {d sz bytes m:Nat} {z:List AV} {l c:Arg}
 (hd:d<n) (hl:nH g f l=.int .i64 m) (hc:nH g f c=.int .i64 m) (hb:bytes*m<=2^40) (hz:z.length=sz)
 (h:(∀x∈ef,(i,x.1)∈pairs->x.2.1.get (base+k)=x.2.2.get (base+k))/\eF P g n pairs base (i+1) (k+1) rs ((i,base+k)::rd) ef (kH f d (.sl (base+k) sz 0 m m)) (H.set (base+k) (.cells (List.replicate m z).flatten false)) R):
 eF P g n pairs base i k (⟨some d,.jJ sz bytes z l c,none⟩::rs) rd ef f H R:=by
 have :∀v,fM n f (some d) v=kH f d v:=fun v=>by simp[fM,hd]
 have ha:asNat (.int .i64 (m:Int))=some m:=aB _ _;unfold eF;rw[if_pos (by rfl)];simp only[eE.fresh,if_true,xB,hl,hc,ha,this];rw[if_pos ⟨Ab _,hb,hz⟩];exact h
theorem sj (n:Nat):bE (iT n)=List.replicate n [.bool false]:=by simp[bE,iT]
theorem aBe (n:Nat):aZ (nM n)=List.replicate n [.int .i64 0,.int .i64 0,.int .i64 0]:=by simp[aZ,nM,iC,zV]
theorem aCa {g r0 r1:Int} {ts:List Th} {rs us:List (List Int)} {tv rv uv:AV} (mK:fO tv 14 (nD ts)) (mF:fO rv 8 (aZ rs)) (nF:fO uv 10 (aZ us)) (ht:∀t∈ts,t.OK) (xQ:ts.length<2^30) (CV:rs.length<2^30) (Zs:us.length<2^30) (H:aA):
 Sg 14 [.agg (yC g r0 r1 tv rv uv)] H (.ret (.agg (iW ts rs.length us.length).cs)) H:=by
 refine eC fit eZ aXj (Ai rfl) Zbm ?_ H;unfold W14;dsimp only;have lt:=mK.len;have lr:=mF.len;have lu:=nF.len;simp only[dA] at lt lr lu;rw[dJ] at lt;rw[aS] at lr lu;refine bQ ?_;simp only[↓zP,zJ,seval,yC];refine fF ?_;simp only[↓zP,zJ,seval,lt];refine fF ?_;have s1:1*ts.length<=2^40:=by omega
 have s2:24*ts.length<=2^40:=by omega
 have s3:1*rs.length<=2^40:=by omega
 have s4:1*us.length<=2^40:=by omega
 refine jV 6 (by decide) (by simp only[mR,seval,zI,Iz,Cp]) fun H1 n1 e1=>?_;simp only[↓zP,zJ,seval,zD];refine xE (m:=ts.length) (by decide) Zaq Zaq s1 rfl ?_;simp only[↓zP,zJ,seval,zD];refine xE (m:=ts.length) (by decide) Zaq Zaq s2 rfl ?_;simp only[↓zP,zJ,seval,zD];refine xE (m:=ts.length) (by decide) Zaq Zaq s2 rfl ?_;simp only[↓zP,zJ,seval,zD,e1,lr];refine xE (m:=rs.length) (by decide) Zaq Zaq s3 rfl ?_;simp only[↓zP,zJ,seval,zD,e1,lu];refine xE (m:=us.length) (by decide) Zaq Zaq s4 rfl ?_;simp only[↓zP,zJ,seval,zD,n1,e1];refine bR ?_;generalize hX:aA.set _ 7 (fB.cells [AV.sl 2 1 0 ts.length ts.length,_,_,_,_,_] false)=HA;have g0:HA.get 0=some (.cells [.int .i64 g,.int .i64 r0,.int .i64 r1,tv,rv,uv] false):=by subst hX;simp only[zI,seval,e1]
 have g1:HA.get 1=some (.cells [.aO,.aO,.aO,.aO,.aO,.aO] false):=by subst hX;simp only[zI,seval,e1]
 have g2:HA.get 2=some (.cells (List.replicate ts.length [AV.bool false]).flatten false):=by subst hX;simp only[zI,seval]
 have g3:HA.get 3=some (.cells (List.replicate ts.length [AV.int .i64 0,.int .i64 0,.int .i64 0]).flatten false):=by subst hX;simp only[zI,seval]
 have g4:HA.get 4=some (.cells (List.replicate ts.length [AV.int .i64 0,.int .i64 0,.int .i64 0]).flatten false):=by subst hX;simp only[zI,seval]
 have g5:HA.get 5=some (.cells (List.replicate rs.length [AV.bool false]).flatten false):=by subst hX;simp only[zI,seval]
 have g6:HA.get 6=some (.cells (List.replicate us.length [AV.bool false]).flatten false):=by subst hX;simp only[zI,seval]
 have g7:HA.get 7=some (.cells [.sl 2 1 0 ts.length ts.length,.aO,.sl 3 3 0 ts.length ts.length,.sl 4 3 0 ts.length ts.length,.sl 5 1 0 rs.length rs.length,.sl 6 1 0 us.length us.length] false):=by subst hX;simp only[zI,seval]
 have gn:8<=HA.next:=by subst hX;simp only[aA.aW];simp only[zI,seval] at n1;omega
 clear hX e1 n1
 have EW:∀j,j<7->∃cs o,HA.get j=some (.cells cs o):=fun j hj=>by
  match j,hj with
  |0,_=>exact⟨_,_,g0⟩
  |1,_=>exact⟨_,_,g1⟩
  |2,_=>exact⟨_,_,g2⟩
  |3,_=>exact⟨_,_,g3⟩
  |4,_=>exact⟨_,_,g4⟩
  |5,_=>exact⟨_,_,g5⟩
  |6,_=>exact⟨_,_,g6⟩
 refine bV fun f dQ=>?_;have f1:f 1=.ref 0 0:=by subst dQ;simp only[zB,seval]
 have f2:f 2=.ref 1 0:=by subst dQ;simp only[zB,seval]
 have f4:f 4=.ref 7 0:=by subst dQ;simp only[zB,seval]
 clear dQ;refine aN fun K hK=>?_;refine bQ ?_;simp only[↓zP,zJ,seval,f1,g0,lt];refine bR ?_;refine cV [] (fun i vs H'=>(∀j,j<7->H'.get j=HA.get j)/\8<=H'.next/\∃v,oZ H' 7 v (aZ (gW (ts.take i)))/\H'.get 7=some (.cells [.sl 2 1 0 ts.length ts.length,v,.sl 3 3 0 ts.length ts.length,.sl 4 3 0 ts.length ts.length,.sl 5 1 0 rs.length rs.length,.sl 6 1 0 us.length us.length] false)) ts.length (by omega) (by decide) ?_ ?_ ?_ ?_ ?_
 . exact zq
 . exact zq
 . exact⟨fun _ _=>rfl,gn,.aO,.nil _ _,g7⟩
 . rintro i f3 H1 hi hk x1 ⟨mj,mn,v,ho,m7⟩;have u4:f3 4=.ref 7 0:=by rw[hk 4 rfl];simp only[zB,seval];exact f4
   have u26:f3 26=.bD 0 14 (nD ts):=(by rw[hk 26 rfl];simp only[zB,seval];exact mK.bD (i:=i) (by rw[dJ];exact hi));have hg:=mN hi;have qP:=ht _ (Ac hi);have MQ:=Th.len qP;have Tg:(iC ts[i].store).length=7:=by rw[cD,qP.store]
   have k7:(ts[i].cs.drop 7).take 7=iC ts[i].store:=by have :ts[i].cs.drop 7=iC ts[i].store:=rfl;rw[this,Aq (by omega)]
   have pT:gW (ts.take (i+1))=gW (ts.take i)++[ts[i].store]:=(by unfold gW;rw[An,Ad hi,Ct];rfl);have hlen:(aZ (gW (ts.take i))).length<=i:=(by simp[aZ,gW];omega);rw[pT];generalize ts[i].store=q at *;generalize ts[i]=t at *;refine aJ ?_;refine bQ ?_;simp only[↓zP,zJ,seval,x1,u26,aB,dJ,hi,hg,oL MQ];refine bR ?_;generalize hX:(H1.alloc _).set H1.next _=H3;have y6:H3.get H1.next=some (.cells t.cs false):=Zai;have yj:∀j,j<8->H3.get j=H1.get j:=fun j hj=>by subst hX;rw[aA.aC,if_neg (by omega),aA.aG,if_neg (by omega)]
   have yn:H1.next<H3.next:=Zat;have pt:oZ H3 7 v (aZ (gW (ts.take i))):=oZ.bDo ho (by omega) fun j hj=>by subst hX;rw[aA.aC,if_neg (by omega),aA.aG,if_neg (by omega)]
   clear hX;have y7:=(yj 7 (by decide)).trans m7;generalize H1.next=r6 at *;obtain⟨v',H4,ha,ho4,Qu⟩:=pt.append (bytes:=56) (e:=iC q) (by omega);have z7:=Qu.cells pt.1 (by omega) y7;simp only[↓zP,zJ,seval,u4,y6,y7,MQ,k7,Tg,eL,ha,z7,ho4.one];refine⟨fun j hj=>?_,by have :=Qu.next;omega,v',?_,rfl⟩
   . obtain⟨cs,o,hc⟩:=EW j hj;have vj:=((yj j (by omega)).trans (mj j hj)).trans hc;rw[if_neg (by omega),Qu.cells pt.1 (by omega) vj,hc]
   have e:aZ (gW (ts.take i)++[q])=aZ (gW (ts.take i))++[iC q]:=(by simp[aZ]);rw[e];exact⟨ho4.1.set 7 _ (ho4.1.Xy z7),ho4.2⟩
 rintro f3 H1 hk ⟨mj,mn,v,ho,m7⟩;have u4:f3 4=.ref 7 0:=by rw[hk 4 rfl];simp only[zB,seval];exact f4
 have u2:f3 2=.ref 1 0:=by rw[hk 2 rfl];simp only[zB,seval];exact f2
 have m1:=(mj 1 (by decide)).trans g1;rw[Ax] at ho;refine Tx ?_;apply hK;clear hK K;simp only[↓zP,zJ,seval,u4,u2,m7,m1];refine⟨rfl,_,by simp only[↓zP,zR,seval,u2];rfl,?_⟩;refine⟨_,1,rfl,fun nw=>?_⟩;have b2:=(mj 2 (by decide)).trans g2;have b3:=(mj 3 (by decide)).trans g3;have b4:=(mj 4 (by decide)).trans g4;have b5:=(mj 5 (by decide)).trans g5;have b6:=(mj 6 (by decide)).trans g6;generalize hX:H1.set 1 _=H2;have st:∀{id:Nat},id≠1->H2.get id=H1.get id:=fun h=>by subst hX;rw[aA.aC,if_neg h]
 have pt:oZ H2 7 v (aZ (gW ts)):=by subst hX;exact⟨ho.1.set 1 _ (ho.1.Xy m1),ho.2⟩
 clear hX;have s0:fA H2 none nw v=_:=pt.shut (jO (bF _)) nw;have s2:fA H2 none nw (.sl 2 1 0 ts.length ts.length)=_:=yE (sz:=1) rfl rfl ((st (by decide)).trans b2) nw;have s3:fA H2 none nw (.sl 3 3 0 ts.length ts.length)=_:=yE (sz:=3) rfl rfl ((st (by decide)).trans b3) nw;have s4:fA H2 none nw (.sl 4 3 0 ts.length ts.length)=_:=yE (sz:=3) rfl rfl ((st (by decide)).trans b4) nw;have s5:fA H2 none nw (.sl 5 1 0 rs.length rs.length)=_:=yE (sz:=1) rfl rfl ((st (by decide)).trans b5) nw;have s6:fA H2 none nw (.sl 6 1 0 us.length us.length)=_:=yE (sz:=1) rfl rfl ((st (by decide)).trans b6) nw;simp only[nB,fG,CX,s0,s2,s3,s4,s5,s6,Bu,iW,Sc.cs,sj,aBe]
theorem UF {H H':aA} {sz bytes:Nat} {v v':AV} {bB ys:List (List AV)} (cQ:ys≠[]) (ho:Own H sz v bB) (h:dR H sz bytes false v ys=some (v',H')):sF v'=some H.next:=by
 unfold dR at h;rw[if_neg (by simpa using cQ)] at h
 rcases ho with ⟨rfl,_⟩|⟨k,rfl,_,hk⟩
 . simp only at h;split at h
   . cases h;rfl
   cases h
 simp only at h;split at h
 . rw[hk] at h;cases h;rfl
 cases h
theorem aDv {H H':aA} {sz bytes:Nat} {v v':AV} {bB:List (List AV)} {e:List AV} (ho:Own H sz v bB) (h:dR H sz bytes false v [e]=some (v',H')):sF v'=some H.next:=UF (by simp) ho h
def Dj (u v:AV):Prop:=∀k,sF u=some k->sF v≠some k
theorem Dj.symm {u v:AV} (h:Dj u v):Dj v u:=fun k h1 h2=>h k h2 h1
theorem Own.other {H H':aA} {sz:Nat} {v w:AV} {bB:List (List AV)} (hg:Wh H H' v) (hw:oZ H sz w bB) (hd:Dj w v):oZ H' sz w bB:=by
 refine⟨?_,hw.2⟩
 rcases hw.1 with h|⟨k,rfl,hk,ht⟩
 . exact .inl h
 exact .inr ⟨k,rfl,by have :=hg.next;omega,by rw[hg.get k (hd k rfl) hk];exact ht⟩
theorem Dj.new {H:aA} {sz:Nat} {w v':AV} {bB:List (List AV)} (hw:oZ H sz w bB) (h:sF v'=some H.next):Dj w v':=fun k h1 h2=>by have :=hw.1.aCg h1;rw[h] at h2;cases h2;omega
structure R4 (H:aA) (p q r t:Nat) (a b c d:AV) (ea eb ec ed:List (List AV)):Prop where
 oa:oZ H p a ea
 ob:oZ H q b eb
 oc:oZ H r c ec
 od:oZ H t d ed
 ab:Dj a b
 ac:Dj a c
 ad:Dj a d
 bc:Dj b c
 bd:Dj b d
 cd:Dj c d
theorem R4.s1 {H:aA} {p q r t:Nat} {a b c d:AV} {ea eb ec ed:List (List AV)} (h:R4 H p q r t a b c d ea eb ec ed):R4 H q p r t b a c d eb ea ec ed:=⟨h.ob,h.oa,h.oc,h.od,h.ab.symm,h.bc,h.bd,h.ac,h.ad,h.cd⟩
theorem R4.s2 {H:aA} {p q r t:Nat} {a b c d:AV} {ea eb ec ed:List (List AV)} (h:R4 H p q r t a b c d ea eb ec ed):R4 H r q p t c b a d ec eb ea ed:=⟨h.oc,h.ob,h.oa,h.od,h.bc.symm,h.ac.symm,h.cd,h.ab.symm,h.bd,h.ad⟩
theorem R4.s3 {H:aA} {p q r t:Nat} {a b c d:AV} {ea eb ec ed:List (List AV)} (h:R4 H p q r t a b c d ea eb ec ed):R4 H t q r p d b c a ed eb ec ea:=⟨h.od,h.ob,h.oc,h.oa,h.bd.symm,h.cd.symm,h.ad.symm,h.bc,h.ab.symm,h.ac.symm⟩
theorem R4.app {H:aA} {p q r t:Nat} {a b c d:AV} {ea eb ec ed:List (List AV)} (h:R4 H p q r t a b c d ea eb ec ed) {bytes:Nat} {e:List AV} (hb:(ea.length+1)*bytes<=2^40):
 ∃a' H2,dR H p bytes false a [e]=some (a',H2)/\R4 H2 p q r t a' b c d (ea++[e]) eb ec ed/\Wh H H2 a:=by
 obtain⟨a',H2,ha,o2,hg⟩:=h.oa.append hb;have ht:=aDv h.oa.1 ha;exact⟨a',H2,ha,⟨o2,Own.other hg h.ob h.ab.symm,Own.other hg h.oc h.ac.symm,Own.other hg h.od h.ad.symm,(Dj.new h.ob ht).symm,(Dj.new h.oc ht).symm,(Dj.new h.od ht).symm,h.bc,h.bd,h.cd⟩,hg⟩
theorem R4.set {H:aA} {p q r t:Nat} {a b c d:AV} {ea eb ec ed:List (List AV)} (h:R4 H p q r t a b c d ea eb ec ed) {id:Nat} {cs:List AV} {o:Bool} (hg:H.get id=some (.cells cs o)) (ob:fB):R4 (H.set id ob) p q r t a b c d ea eb ec ed:=
 ⟨⟨h.oa.1.set id ob (h.oa.1.Xy hg),h.oa.2⟩,⟨h.ob.1.set id ob (h.ob.1.Xy hg),h.ob.2⟩,⟨h.oc.1.set id ob (h.oc.1.Xy hg),h.oc.2⟩,⟨h.od.1.set id ob (h.od.1.Xy hg),h.od.2⟩,h.ab,h.ac,h.ad,h.bc,h.bd,h.cd⟩
structure StP (HA:aA) (w:List AV) (H:aA) (a b c d:AV) (ea eb ec ed:List (List AV)):Prop where
 r:R4 H 1 7 3 3 a b c d ea eb ec ed
 g:H.get 4=some (.cells (a::b::c::d::w) false)
 j:∀j,j<4->H.get j=HA.get j
 n:5<=H.next
theorem StP.aft {HA:aA} {w:List AV} {H H2:aA} {a b c d a' b' c' d':AV} {ea eb ec ed ea' eb' ec' ed':List (List AV)} (h:StP HA w H a b c d ea eb ec ed) (hc:∀j,j<4->∃cs o,HA.get j=some (.cells cs o))
 (k:R4 H2 1 7 3 3 a' b' c' d' ea' eb' ec' ed') {sz:Nat} {v:AV} {bB:List (List AV)} (hg:Wh H H2 v) (ho:Own H sz v bB):
 StP HA w (H2.set 4 (.cells (a'::b'::c'::d'::w) false)) a' b' c' d' ea' eb' ec' ed'/\H2.get 4=some (.cells (a::b::c::d::w) false)/\H.next<=H2.next:=by
 have z4:=hg.cells ho h.n h.g;refine⟨⟨k.set z4 _,by rw[aA.aC,if_pos rfl],fun j hj=>?_,by rw[aA.aW];exact Cd h.n hg.next⟩,z4,hg.next⟩;obtain⟨cs,o,hcj⟩:=hc j hj;rw[aA.aC,if_neg (by omega),hg.cells ho (by have :=h.n;omega) ((h.j j hj).trans hcj),hcj]
def Kv (ts:List Th) (r u:Nat):Sc:=⟨Oq 1 (bE (iT ts.length)),Oq 7 (aZ (gW ts)),Oq 3 (aZ (nM ts.length)),Oq 3 (aZ (nM ts.length)),.bD 0 1 (bE (iT r)),.bD 0 1 (bE (iT u)),
 iT ts.length,gW ts,nM ts.length,nM ts.length,iT r,iT u⟩
theorem og {ts:List Th} {r u:Nat} (ht:∀t∈ts,t.OK) (hn:ts.length<2^30) (hr:r<2^30) (hu:u<2^30):(Kv ts r u).OK:=by have h:=Ri ht hn hr hu;exact⟨wV _ _,wV _ _,wV _ _,wV _ _,h.ta,h.ac,h.p7,h.v3,h.w3,h.bD,h.lps,h.zc,h.zd,h.lta,h.lac⟩
theorem nc {g r0 r1:Int} {ts:List Th} {rs us:List (List Int)} {tv rv uv:AV} (mK:fO tv 14 (nD ts)) (mF:fO rv 8 (aZ rs)) (nF:fO uv 10 (aZ us)) (ht:∀t∈ts,t.OK) (xQ:ts.length<2^30) (CV:rs.length<2^30) (Zs:us.length<2^30) (H:aA):
 Sg 15 [.agg (yC g r0 r1 tv rv uv)] H (.ret (.agg (Kv ts rs.length us.length).cs)) H:=by
 refine eC fit eZ bHc (Ai rfl) Zbm ?_ H;unfold W15;dsimp only;have lt:=mK.len;have lr:=mF.len;have lu:=nF.len;simp only[dA] at lt lr lu;rw[dJ] at lt;rw[aS] at lr lu;refine bQ ?_;simp only[↓zP,zJ,seval,yC];refine fF ?_;have s3:1*rs.length<=2^40:=by omega
 have s4:1*us.length<=2^40:=by omega
 refine jV 3 (by decide) (by simp only[mR,seval,zI,Iz,Cp]) fun H1 n1 e1=>?_;simp only[↓zP,zJ,seval,zD,e1,lr];refine xE (m:=rs.length) (by decide) Zaq Zaq s3 rfl ?_;simp only[↓zP,zJ,seval,zD,e1,lu];refine xE (m:=us.length) (by decide) Zaq Zaq s4 rfl ?_;simp only[↓zP,zJ,seval,zD,n1,e1];refine bR ?_;generalize hX:aA.set _ 4 (fB.cells [AV.aO,_,_,_,_,_] false)=HA;have g0:HA.get 0=some (.cells [.int .i64 g,.int .i64 r0,.int .i64 r1,tv,rv,uv] false):=by subst hX;simp only[zI,seval,e1]
 have g1:HA.get 1=some (.cells [.aO,.aO,.aO,.aO,.aO,.aO] false):=by subst hX;simp only[zI,seval,e1]
 have g2:HA.get 2=some (.cells (List.replicate rs.length [AV.bool false]).flatten false):=by subst hX;simp only[zI,seval]
 have g3:HA.get 3=some (.cells (List.replicate us.length [AV.bool false]).flatten false):=by subst hX;simp only[zI,seval]
 have g4:HA.get 4=some (.cells [.aO,.aO,.aO,.aO,.sl 2 1 0 rs.length rs.length,.sl 3 1 0 us.length us.length] false):=by subst hX;simp only[zI,seval]
 have gn:5<=HA.next:=by subst hX;simp only[aA.aW];simp only[zI,seval] at n1;omega
 clear hX e1 n1
 have EW:∀j,j<4->∃cs o,HA.get j=some (.cells cs o):=fun j hj=>by
  match j,hj with
  |0,_=>exact⟨_,_,g0⟩
  |1,_=>exact⟨_,_,g1⟩
  |2,_=>exact⟨_,_,g2⟩
  |3,_=>exact⟨_,_,g3⟩
 refine bV fun f dQ=>?_;have f1:f 1=.ref 0 0:=by subst dQ;simp only[zB,seval]
 have f2:f 2=.ref 1 0:=by subst dQ;simp only[zB,seval]
 have f3:f 3=.ref 4 0:=by subst dQ;simp only[zB,seval]
 clear dQ;refine aN fun K hK=>?_;refine Tz ?_;refine bP [] (fun i vs H'=>∃a b c d,StP HA [.sl 2 1 0 rs.length rs.length,.sl 3 1 0 us.length us.length] H' a b c d (bE (iT i)) (aZ (gW (ts.take i))) (aZ (nM i)) (aZ (nM i))) 0 ts.length (Az _) (by omega) (by decide) ?_ ?_ ?_ ?_ ?_
 . exact zq
 . have hd:Dj .aO .aO:=fun k h=>by cases h
   exact⟨.aO,.aO,.aO,.aO,⟨⟨.nil _ _,.nil _ _,.nil _ _,.nil _ _,hd,hd,hd,hd,hd,hd⟩,g4,fun _ _=>rfl,gn⟩⟩
 . rintro i f4 H1 h0 hi hk x1 ⟨a,b,c,d,h4⟩;have u1:f4 1=.ref 0 0:=by rw[hk 1 rfl];simp only[zB,seval];exact f1
   have m0:=(h4.j 0 (by decide)).trans g0;simp only[↓zP,zJ,seval,x1,u1,m0,lt];exact Zae
 . rintro i f4 H1 h0 hi hk x1 ⟨a,b,c,d,h4⟩;have u1:f4 1=.ref 0 0:=by rw[hk 1 rfl];simp only[zB,seval];exact f1
   have u3:f4 3=.ref 4 0:=(by rw[hk 3 rfl];simp only[zB,seval];exact f3);have bGs:tv=.bD 0 14 (nD ts):=mK.bD (i:=i) (by rw[dJ];exact hi);have hg:=mN hi;have qP:=ht _ (Ac hi);have MQ:=Th.len qP;have Tg:(iC ts[i].store).length=7:=(by rw[cD,qP.store]);have k7:ts[i].cs.drop 7=iC ts[i].store:=rfl;have pT:gW (ts.take (i+1))=gW (ts.take i)++[ts[i].store]:=(by unfold gW;rw[An,Ad hi,Ct];rfl);have hlen:(aZ (gW (ts.take i))).length<=i:=(by simp[aZ,gW];omega);have hlb:(bE (iT i)).length=i:=(by simp[bE,iT]);have hlz:(aZ (nM i)).length=i:=(by simp[aZ,nM]);rw[pT];generalize ts[i].store=q at *;generalize ts[i]=t at *;refine aJ ?_;have eb:bE (iT (i+1))=bE (iT i)++[[.bool false]]:=(by simp[bE,iT,List.replicate_succ']);have er:aZ (gW (ts.take i)++[q])=aZ (gW (ts.take i))++[iC q]:=(by simp[aZ]);have ez:aZ (nM (i+1))=aZ (nM i)++[[.int .i64 0,.int .i64 0,.int .i64 0]]:=(by simp[aZ,nM,List.replicate_succ',iC,zV]);rw[eb,er,ez];clear pT;have m4:=h4.g;obtain⟨a',H2,ha,k2,ga⟩:=h4.r.app (bytes:=1) (e:=[.bool false]) (by omega);obtain⟨h5,z4,_⟩:=h4.aft EW k2 ga h4.r.oa.1;refine aN fun K2 bW=>?_;simp only[↓zP,zJ,seval,u3,m4,eL,ha,z4,k2.oa.one];apply bW;clear bW K2 m4 z4 ha ga k2;generalize H2.set 4 _=H3 at *;have m4:=h5.g;have w0:=(h5.j 0 (by decide)).trans g0;obtain⟨b',H4,hb,k2,gb⟩:=h5.r.s1.app (bytes:=56) (e:=iC q) (by omega);obtain⟨h6,z4,hn⟩:=h5.aft EW k2.s1 gb h5.r.ob.1;refine aN fun K2 bW=>?_;refine Dz ?_;simp only[↓zP,zJ,seval,zD,x1,u1,u3,m4,w0,bGs,aB,dJ,hi,hg,k7,oL Tg,eL,hb,z4,k2.oa.one];refine⟨hn,?_⟩;apply bW;clear bW K2 m4 z4 hb gb k2 w0 hn;generalize H4.set 4 _=H5 at *;have m4:=h6.g;obtain⟨c',H6,hc,k2,gc⟩:=h6.r.s2.app (bytes:=24) (e:=[.int .i64 0,.int .i64 0,.int .i64 0]) (by omega);obtain⟨h7,z4,_⟩:=h6.aft EW k2.s2 gc h6.r.oc.1;refine aN fun K2 bW=>?_;simp only[↓zP,zJ,seval,u3,m4,eL,hc,z4,k2.oa.one];apply bW;clear bW K2 m4 z4 hc gc k2;generalize H6.set 4 _=H7 at *;have m4:=h7.g;obtain⟨d',H8,hd,k2,gd⟩:=h7.r.s3.app (bytes:=24) (e:=[.int .i64 0,.int .i64 0,.int .i64 0]) (by omega);obtain⟨h8,z4,_⟩:=h7.aft EW k2.s3 gd h7.r.od.1;simp only[↓zP,zJ,seval,u3,m4,eL,hd,z4,k2.oa.one];exact⟨_,_,_,_,h8⟩
 rintro f4 H1 hk ⟨a,b,c,d,h4⟩;have u3:f4 3=.ref 4 0:=by rw[hk 3 rfl];simp only[zB,seval];exact f3
 have u2:f4 2=.ref 1 0:=by rw[hk 2 rfl];simp only[zB,seval];exact f2
 have m1:=(h4.j 1 (by decide)).trans g1;have m4:=h4.g;have b2:=(h4.j 2 (by decide)).trans g2;have b3:=(h4.j 3 (by decide)).trans g3;have hr4:=h4.r;rw[Ax] at hr4;refine Tx ?_;apply hK;clear hK K;simp only[↓zP,zJ,seval,u3,u2,m4,m1];refine⟨rfl,_,by simp only[↓zP,zR,seval,u2];rfl,?_⟩;refine⟨_,1,rfl,fun nw=>?_⟩;have hr5:=hr4.set m1 (.cells [a,b,c,d,.sl 2 1 0 rs.length rs.length,.sl 3 1 0 us.length us.length] false);have st:∀{id:Nat},id≠1->(H1.set 1 (.cells [a,b,c,d,.sl 2 1 0 rs.length rs.length,.sl 3 1 0 us.length us.length] false)).get id=H1.get id:=fun h=>by rw[aA.aC,if_neg h]
 generalize H1.set 1 _=H2 at *;have s0:fA H2 none nw a=_:=hr5.oa.shut (jO (gO _)) nw;have s1:fA H2 none nw b=_:=hr5.ob.shut (jO (bF _)) nw;have s2:fA H2 none nw c=_:=hr5.oc.shut (jO (bF _)) nw;have s3:fA H2 none nw d=_:=hr5.od.shut (jO (bF _)) nw;have s5:fA H2 none nw (.sl 2 1 0 rs.length rs.length)=_:=yE (sz:=1) rfl rfl ((st (by decide)).trans b2) nw;have s6:fA H2 none nw (.sl 3 1 0 us.length us.length)=_:=yE (sz:=1) rfl rfl ((st (by decide)).trans b3) nw;simp only[nB,fG,CX,s0,s1,s2,s3,s5,s6,Bu,Kv,Sc.cs,<-sj]
end Go.Proofs.YtgggiembljfnhaaGreatDoor
