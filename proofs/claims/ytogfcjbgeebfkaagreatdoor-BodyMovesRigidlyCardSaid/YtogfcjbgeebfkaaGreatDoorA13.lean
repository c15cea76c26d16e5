/-
  Part of the proof of statement 9
-/
import Derived.Test.YtogfcjbgeebfkaaGreatDoorA12
import Derived.Test.YtogfcjbgeebfkaaGreatDoorA06
set_option linter.unusedSimpArgs false
set_option linter.unusedVariables false
set_option maxRecDepth 100000
set_option maxHeartbeats 16000000
namespace Go.Proofs.YtogfcjbgeebfkaaGreatDoor
open Go Go.Av Go.aC
attribute [local congr] aX aQ aR aL bA aW aS aG bB
attribute [local irreducible] FC bT eI
variable{x:Int}{B:Nat}
theorem gW(h:x.natAbs<=B)(S:B<2^63):IntKind.i64.wrap x=x:=wrap_i64 A0 A0
variable{A:Nat}
theorem bN.c{v:aC.V}(h:bN A v)(i:Nat):(v.at i).natAbs<=A:=by
 unfold V.at;split
 . exact h.1
 . exact h.2.1
 exact h.2.2
variable{a b:aC.V}
theorem LU(I:bN A a)(X:bN B b)(c:3*(A*B)<2^62)(H:aA):Sg 281 [.agg (cG a),.agg (cG b)] H (.ret (.int .i64 (aC.dot a b))) H:=by
 have O:=bZ I.1 X.1;have Z:=bZ I.2.1 X.2.1;have W:=bZ I.2.2 X.2.2;have w1:=gW O A0;have w2:=gW Z A0;have G:=gW W A0;have t:IntKind.i64.wrap (a.x*b.x+a.y*b.y)=a.x*b.x+a.y*b.y:=gW (B:=2*(A*B)) A0 A0;have M:IntKind.i64.wrap (a.x*b.x+a.y*b.y+a.z*b.z)=a.x*b.x+a.y*b.y+a.z*b.z:=gW (B:=3*(A*B)) A0 A0;refine So bKb Zae ?_ H;unfold aXw;dsimp only;simp only[↓zP,zJ,seval,cG,AR,w1,w2,G,t,M]
 (refine Rx ?_;rfl)
variable{M:Nat}
theorem TJ{y:Int}(C:x.natAbs<=M)(Q:y.natAbs<=M)(g:M<2^61):IntKind.i64.wrap (x -y)=x -y:=gW (B:=2*M) A0 A0
theorem NH(I:bN A a)(X:bN B b)(M:A*B<2^61)(H:aA):Sg 214 [.agg (cG a),.agg (cG b)] H (.ret (.agg (cG (aC.aY a b)))) H:=by
 obtain⟨a1,Q,s⟩:=I;obtain⟨R,L,k⟩:=X;have w1:=gW (bZ Q k) A0;have w2:=gW (bZ s L) A0;have G:=gW (bZ s R) A0;have t:=gW (bZ a1 k) A0;have d:=gW (bZ a1 L) A0;have p:=gW (bZ Q R) A0;have c:=TJ (bZ Q k) (bZ s L) M;have z:=TJ (bZ s R) (bZ a1 k) M;have e:=TJ (bZ a1 L) (bZ Q R) M;refine So aTd Zae ?_ H;unfold aLt;dsimp only;simp only[zJ,seval,cG,AR,w1,w2,G,t,d,p,c,z,e]
 (refine Rx ?_;rfl)
theorem tj(I:bN A a)(M:A<2^62)(H:aA):Sg 132 [.agg (cG a)] H (.ret (.agg (cG (aC.neg a)))) H:=by
 obtain⟨a1,Q,s⟩:=I;have w1:IntKind.i64.wrap (0 -a.x)= -a.x:=(gW (B:=A) A0 A0).trans A0;have w2:IntKind.i64.wrap (0 -a.y)= -a.y:=(gW (B:=A) A0 A0).trans A0;have G:IntKind.i64.wrap (0 -a.z)= -a.z:=(gW (B:=A) A0 A0).trans A0;refine So bGx Zae ?_ H;unfold aUv;exact Zcp
theorem aRd(I:bN A a)(X:bN B b)(M:A+B<2^62)(H:aA):Sg 131 [.agg (cG a),.agg (cG b)] H (.ret (.agg (cG (aC.add a b)))) H:=by
 refine So bGw Zae ?_ H;unfold aUu;dsimp only;simp only[↓zP,zJ,seval,cG];refine cM [] (fun i _ H'=>H'.get 0=some (.cells ([0,1,2].map fun j=>if j<i then .int .i64 (a.at j+b.at j) else .int .i64 (a.at j)) false)/\H'.get 1=some (.cells (cG b) false)/\H'.get 2=some (.cells [.int .i64 0,.int .i64 0,.int .i64 0] false)) 3 A1 rfl A1 ?_ ?_ ?_ ?_
 . exact zq
 . simp only[seval,zI,Al];exact⟨rfl,rfl,trivial⟩
 . rintro i f H F E T ⟨g0,g,d⟩;have U:([0,1,2].map fun j=>if j<i then AV.int .i64 (a.at j+b.at j) else .int .i64 (a.at j)).length=3:=by simp
   have t:([0,1,2].map fun j=>if j<i then AV.int .i64 (a.at j+b.at j) else .int .i64 (a.at j)).getD i aB=.int .i64 (a.at i):=by
    match i,F with
    |0,_=>rfl
    |1,_=>rfl
    |2,_=>rfl
   have w:IntKind.i64.wrap (a.at i+b.at i)=a.at i+b.at i:=by have O:=bN.c I i;have Z:=bN.c X i;exact gW (B:=A+B) A0 A0
   refine aJ ?_;refine bP ?_;refine Wz ?_;refine bQ ?_;refine Dz ?_;generalize R:([0,1,2].map fun j=>if j<i then AV.int .i64 (a.at j+b.at j) else .int .i64 (a.at j))=cs at *;simp only[↓zP,zJ,seval,zD,E 2 rfl,E 3 rfl,aD,F,g0,g,U,t,aT,iC b F,w,show i+1<=3 by omega];subst R;refine⟨?_,d⟩
   match i,F with
   |0,_=>rfl
   |1,_=>rfl
   |2,_=>rfl
 rintro f H E ⟨g0,g,d⟩;simp only[↓zP,zJ,seval,E 2 rfl,E 4 rfl,g0,d];exact⟨rfl,_,by simp only[↓zP,zR,seval,E 4 rfl];rfl,rfl⟩
theorem Wr(a b:aC.V):aC.add a (aC.neg b)=aC.sub a b:=by simp only[aC.add,aC.neg,aC.sub,Jf]
theorem GL(I:bN A a)(X:bN B b)(M:A+B<2^62)(H:aA):Sg 54 [.agg (cG a),.agg (cG b)] H (.ret (.agg (cG (aC.sub a b)))) H:=by refine Sp bQp Zae Zae ?_ H;unfold W54;dsimp only;refine Ty ?_;refine Dz ?_;have :=oL (aT a);have :=oL (aT b);have :=tj X A0;have :=aRd I (EK X) M;refine Wz ?_;rw[Wr];simp only[↓zP,zJ,seval,zD,oL (aT (aC.sub a b))];exact⟨rfl,_,by simp only[↓zP,zR,seval,oL (aT (aC.sub a b))];rfl,rfl⟩
theorem YE(a:Int)(H:aA):Sg 289 [.int .i64 a] H (.ret (.bool false)) H:=by
 refine So bKg Zac ?_ H;unfold aYb;dsimp only;simp only[↓zP,zJ,seval,Jo]
 (refine Rx ?_;rfl)
def yB(a b:Int):Int:=if a<b then -1 else if b<a then 1 else 0
theorem kV(a b:Int)(H:aA):Sg 251 [.int .i64 a,.int .i64 b] H (.ret (.int .i64 (yB a b))) H:=by
 refine So bJm Zac ?_ H;unfold aXh;dsimp only;have :=YE a;have :=YE b;refine Wz ?_;refine⟨fun h=>?_,fun h=>⟨fun Z=>?_,fun Z=>?_⟩⟩<;>refine Rx ?_<;>unfold yB
 . rw[if_pos A0];rfl
 . exact ZbU
 rw[if_neg A0,if_neg A0];rfl
def orZ(l:List Int):Int:=(l.find? (· ≠0)).getD 0
theorem aCr(l:List Int)(U:l.length<2^30)(H:aA):Sg 250 [.bJ 1 1 (Lj l)] H (.ret (.int .i64 (orZ l))) H:=by
 refine So bJl (by simp only[sf,LI]) ?_ H;unfold aXg;dsimp only;refine bP ?_;refine Tz ?_;refine fW ?_;refine Tz ?_;refine bQ ?_;refine aM fun K hK=>?_;refine bP ?_;refine Ty ?_;refine bQ ?_;refine bS [] (fun i _ H=>∀x∈l.take i,x=0) l.length A0 A1 ?_ ?_ ?_ ?_ ?_
 . exact zq
 . simp only[zB,seval,BL]
 . intro x hx;simp at hx
 . intro i f H F E T Y;have t:(Lj l).getD i []=[.int .i64 l[i]]:=by simp[Lj,List.getD,F]
   refine aJ ?_;by_cases s:l[i]=0
   . simp only[↓zP,zJ,seval,T,E 6 rfl,E 3 rfl,aD,BL,F,t,s,show((0:Int) != 0)=false from rfl];intro x hx;rw[Ao,Ar] at hx
     rcases hx with hx|hx
     . exact Y x hx
     simp[F] at hx;rw[hx,s]
   have X:(l[i] != 0)=true:=(by simpa using s);simp only[↓zP,zJ,seval,T,E 6 rfl,E 3 rfl,aD,BL,F,t,X];refine Rx ?_
   have :l.find? (· ≠0)=some l[i]:=by
    conv=>lhs;rw[<-Ih i l]
    rw[List.find?_append,Hr.2 (fun x hx=>by simp[Y x hx]),Fb F,List.find?_cons_of_pos (by simpa using s)];rfl
   rw[orZ,this];rfl
 intro f H E Y;rw[Aq] at Y;refine Tx ?_;apply hK;simp only[↓zP,zG,seval,E 3 rfl];refine Rx ?_;have :l.find? (· ≠0)=none:=Hr.2 fun x hx=>by simp[Y x hx]
 rw[orZ,this];rfl
def nJ(q:aC.V×Int):List AV:=[.int .i64 q.1.x,.int .i64 q.1.y,.int .i64 q.1.z,.int .i64 q.2]
theorem ES(q:aC.V×Int):cW (nJ q)=true:=by simp only[nJ,sf]
theorem aFe{a b:Int}(I:a.natAbs<=B)(X:b.natAbs<=B)(S:B<2^62)(H:aA):Sg 286 [.int .i64 a,.int .i64 b] H (.ret (.int .i64 (Int.gcd a b))) H:=by
 refine So bKf Zac ?_ H;unfold aYa;dsimp only;refine bP ?_;refine Tz ?_;refine bQ ?_;refine aM fun K hK=>?_;refine aJ (kJ [0,1] (fun m vs _=>∃x y:Int,vs=[.int .i64 x,.int .i64 y]/\x.natAbs<=B/\y.natAbs<=B/\m=y.natAbs/\Int.gcd x y=Int.gcd a b) b.natAbs (by rfl) ?_ ?_)
 . exact⟨a,b,by simp only[sm,zB,seval,fD],I,X,rfl,rfl⟩
 rintro m f H E ⟨x,y,J,C,Q,rfl,t⟩;simp only[zM] at J;obtain⟨o,O⟩:=J;by_cases k:y=0
 . subst k;have L:IntKind.i64.wrap (0 -x)= -x:=(gW (B:=B) A0 A0).trans A0;have :((0:Int) != 0)=false:=rfl;refine Wy ?_;apply hK;refine Wy ?_;refine Rx ?_
   have g:(Int.gcd a b:Int)=if -x>x then -x else x:=(by rw[<-t,aNr]);rw[g];rfl
 have p:(y != 0)=true:=by simpa using k
 refine Wy ?_;refine aJ (Wj A1 ?_);simp only[↓zP,zG,seval,zD,o,O];rw[if_neg k]
 have r:(x.tmod y).natAbs<y.natAbs:=by rw[natAbs_tmod];exact Bz _ A0
 simp only[zG,seval,zD];exact⟨_,r,y,x.tmod y,by simp only[sm,zB,seval],Q,by omega,rfl,by rw[Xh,t]⟩
theorem Xg{a b:Int}(I:a.natAbs<=B)(X:b.natAbs<=B):Int.gcd a b<=B:=by
 unfold Int.gcd
 rcases Ho a.natAbs with h|h
 . rw[h,Nat.gcd_zero_left];exact X
 exact Ay (Nat.gcd_le_left _ h) I
def MW(a b c:aC.V):aC.V×Int:=let n:=iK (aC.aY (aC.sub b a) (aC.sub c a));(n,aC.dot n a)
theorem kj{c:aC.V}(I:bN M a)(n:bN M b)(R:bN M c)(g:M<=2^18)(H:aA):Sg 246 [.agg (cG a),.agg (cG b),.agg (cG c)] H (.ret (.agg (nJ (MW a b c)))) H:=by
 have l:=gU n I;have L:=gU R I;have A:=iQ l L;have d:(M+M)*(M+M)<=2^19*2^19:=Be A0 A0;have s:2*((M+M)*(M+M))*M<=2^39*2^18:=Be A0 A0;refine Sp bJi Zae (by simp only[sf,ES]) ?_ H;unfold aXd;dsimp only;refine bP ?_;refine Ty ?_;refine fW ?_;refine fT 1 A1 Zcv fun H1 n1 T=>?_;simp only[zI,seval] at n1 T;have :=oL (aT a);have :=oL (aT b);have :=GL n I A0;have :=oL (aT c);have :=GL R I A0;have :=NH l L A0;refine Wz ?_;generalize F:aC.aY (aC.sub b a) (aC.sub c a)=N at *;have :=oL (aT N);refine Wz ?_;refine bQ ?_;generalize S:2*((M+M)*(M+M))=B at *;generalize hX:(H1.set 4 _).set 4 _=w;have g0:=Kx (i:=0) hX;have C:=Kx (i:=3) hX;have o:=Kv (i:=4) hX;clear hX T n1
 have q:(Int.gcd N.x N.y:Int).natAbs<=B:=by rw[Cp];exact Xg A.1 A.2.1
 have m:=vD A;refine aM fun K hK=>?_;refine bP ?_;refine Dz ?_;simp only[↓zP,zJ,seval,zD,o,AR,cG];refine gH (aFe A.1 A.2.1 A0 _) ?_;simp only[↓zP,zJ,seval,zD,o,AR,cG];refine gH (aFe q A.2.2 A0 _) ?_;simp only[↓zP,zJ,seval,zD,Rl];refine bQ ?_
 have j:∀(f:dD) (X:aA),f 3=.ref 0 0->f 6=.ref 3 0->f 7=.ref 4 0->X.get 0=some (.cells (cG a) false)->X.get 3=some (.cells [.int .i64 0,.int .i64 0,.int .i64 0,.int .i64 0] false)->X.get 4=some (.cells (cG (iK N)) false)->K f [] X:=by intro f X r p J g0 C o;apply hK;clear hK K;refine bP ?_;refine Dz ?_;simp only[↓zP,zJ,seval,zD,r,J,g0,o,oL (aT a),oL (aT (iK N))];refine gH (LU m I A0 _) ?_;simp only[↓zP,zJ,seval,zD,p,C,cG];refine bQ ?_;refine Tx ?_;refine⟨rfl,_,by simp only[↓zP,zR,seval,p];rfl,?_⟩;simp only[MW,F,nJ];rfl
 refine Tz ?_;refine⟨fun h=>?_,fun k=>?_⟩
 . have t:¬((fZ N:Nat):Int)=0:=by omega
   have e:=Ts N;have q1:IntKind.i64.wrap (N.x.tdiv (fZ N))=(iK N).x:=(by rw[gW (B:=B) (by have :=m.1;rw[e] at this;exact this) A0,e]);have q2:IntKind.i64.wrap (N.y.tdiv (fZ N))=(iK N).y:=(by rw[gW (B:=B) (by have :=m.2.1;rw[e] at this;exact this) A0,e]);have q3:IntKind.i64.wrap (N.z.tdiv (fZ N))=(iK N).z:=(by rw[gW (B:=B) (by have :=m.2.2;rw[e] at this;exact this) A0,e]);refine Dz ?_;simp only[↓zP,zJ,seval,zD,o,AR,cG,t,q1,q2,q3];apply j<;>simp only[↓zP,zJ,seval,g0,C,cG]
 have T:iK N=N:=aIh A0
 apply j<;>first|(simp only[↓zP,zG,seval];done)|(rw[T];exact o)|assumption
def bR(l:List aC.V):List (List AV):=l.map cG
theorem aU(l:List aC.V):(bR l).length=l.length:=by simp[bR]
theorem cH{l:List aC.V}{i:Nat}(h:i<l.length):(bR l).getD i []=cG l[i]:=eO h
variable{tag:Nat}
theorem cT(q:Nat.blt tag 2=true)(l:List aC.V):(AV.bJ tag 3 (bR l)).free=true:=by simp only[AV.free,q,Dk];exact dP bV l
def GW(l:List aC.V)(q:aC.V×Int):Bool:=l.all (fun v=>decide (aC.dot q.1 v<=q.2))&& !l.all (fun v=>aC.dot q.1 v==q.2)
theorem iy(a:Nat.blt tag 2=true){l:List aC.V}{M B:Nat}(U:∀v∈l,bN M v)(Q:l.length<2^30){q:aC.V×Int}(D:bN B q.1)(c:3*(B*M)<2^62)(H:aA):
 Sg 247 [.bJ tag 3 (bR l),.agg (nJ q)] H (.ret (.bool (GW l q))) H:=by
 refine So bJj (by simp only[sf,cT a,ES]) ?_ H;unfold aXe;dsimp only;have u:(nJ q).length=4:=rfl;have P:(nJ q).take 3=cG q.1:=rfl;have S:(nJ q).getD 3 aB=.int .i64 q.2:=rfl;refine bP ?_;refine Ty ?_;refine fW ?_;refine Tz ?_;refine bQ ?_;refine aM fun K hK=>?_;refine bP ?_;refine Ty ?_;refine bQ ?_;refine bS [5] (fun i vs H=>vs=[.bool ((l.take i).all (fun v=>aC.dot q.1 v==q.2))]/\(∀v∈l.take i,aC.dot q.1 v<=q.2)/\1<=H.next/\H.get 0=some (.cells (nJ q) false)) l.length A0 A1 ?_ ?_ ?_ ?_ ?_
 . exact zq
 . exact ZbM
 . refine⟨by simp only[sm,zB,seval];rfl,fun v J=>by simp at J,by simp only[zI,seval],by simp only[seval,zI]⟩
 . rintro i f H F E T ⟨J,k,A,g0⟩;simp only[zM] at J
   have C:∀v,v∈l.take (i+1)->v∈l.take i\/v=l[i]:=fun v J=>by
    exact Zam
   have W:(l.take (i+1)).all (fun v=>aC.dot q.1 v==q.2)=((l.take i).all (fun v=>aC.dot q.1 v==q.2)&&(aC.dot q.1 l[i]==q.2)):=by rw[Ao,List.all_append];simp[F]
   generalize X:(l.take i).all (fun v=>aC.dot q.1 v==q.2)=b at *;have s:=Ac F;have t:=cH F;generalize d:l[i]=x at *;have z:¬(0=H.next):=A0;refine aJ ?_;simp only[↓zP,zJ,seval,T,E 9 rfl,E 3 rfl,aD,aU,F,t,oL (aT x),z,g0,u,P];refine fC (LU D (U x s) c _) ?_;simp only[↓zP,zJ,seval,E 3 rfl,z,g0,u,S,J];refine⟨fun h=>?_,fun h=>?_⟩
   . refine Rx ?_
     have :GW l q=false:=by simp only[GW,Kl];refine .inl ?_;rw[<-Ew,Bh];intro I;have :=Dv (I x s);omega
     rw[this];rfl
   have e:∀v∈l.take (i+1),aC.dot q.1 v<=q.2:=fun v J=>by
    rcases C v J with O|rfl
    . exact k v O
    omega
   cases b
   . refine Tz ?_;exact⟨by rw[W];rfl,e,trivial⟩
   refine Tx ?_;exact⟨by rw[W];rfl,e,trivial⟩
 rintro f H E ⟨J,k,A,g0⟩;simp only[zM] at J;rw[Aq] at J k;refine Tx ?_;apply hK;simp only[↓zP,zG,seval,J];refine Rx ?_;have :l.all (fun v=>decide (aC.dot q.1 v<=q.2))=true:=Bh.2 fun v J=>Ag (k v J);simp only[GW,this,Dk];rfl
def Ya(p q:aC.V×Int):Int:=orZ [yB p.1.x q.1.x,yB p.1.y q.1.y,yB p.1.z q.1.z]
theorem Yb(p q:aC.V×Int)(H:aA):Sg 249 [.agg (nJ p),.agg (nJ q)] H (.ret (.int .i64 (Ya p q))) H:=by
 refine So bJk (by simp only[sf,ES]) ?_ H;unfold aXf;dsimp only;refine bP ?_;refine Ty ?_;refine fW ?_;refine Dz ?_;simp only[↓zP,zJ,seval,zD,nJ,AR];refine gH (kV p.1.x q.1.x _) ?_;simp only[↓zP,zJ,seval,zD,AR];refine gH (kV p.1.y q.1.y _) ?_;simp only[↓zP,zJ,seval,zD,AR];refine gH (kV p.1.z q.1.z _) ?_;simp only[↓zP,zJ,seval,zD];have w:=aCr [yB p.1.x q.1.x,yB p.1.y q.1.y,yB p.1.z q.1.z] A2;simp only[Lj,sm] at w;refine gH (w _) ?_;simp only[↓zP,zJ,seval,zD];refine bQ ?_;refine Tx ?_
 (refine Rx ?_;rfl)
end Go.Proofs.YtogfcjbgeebfkaaGreatDoor
