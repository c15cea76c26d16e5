/-
  Part of the proof of statement 9
-/
import Derived.Test.YtogfcjbgeebfkaaGreatDoorA21
import Derived.Test.YtogfcjbgeebfkaaGreatDoorA07
import Derived.Test.YtogfcjbgeebfkaaGreatDoorA20
import Derived.Test.YtogfcjbgeebfkaaGreatDoorA22
import Derived.Test.YtogfcjbgeebfkaaGreatDoorA06
import Derived.Test.YtogfcjbgeebfkaaGreatDoorA17
import Derived.Test.YtogfcjbgeebfkaaGreatDoorA19
set_option linter.unusedSimpArgs false
set_option linter.unusedVariables false
set_option maxRecDepth 100000
set_option maxHeartbeats 16000000
namespace Go.Proofs.YtogfcjbgeebfkaaGreatDoor
open Go Go.Av Go.jG
attribute [local congr] aX aQ aR aL bA aW aS aG bB
attribute [local irreducible] FC bT eI
def aEl(x y:Int):Int×Int:=if(!decide (x.tmod y=0)&&(decide (x.tmod y<0) != decide (y<0)))=true then(x.tdiv y -1,x.tmod y+y) else(x.tdiv y,x.tmod y)
theorem tdiv_le(x y:Int):(x.tdiv y).natAbs<=x.natAbs:=by rw[Int.natAbs_tdiv];exact Fs _ _
theorem tc(x:Int){y:Int}(h:y≠0):(x.tmod y).natAbs<y.natAbs:=by rw[Int.natAbs_tmod];exact Bz _ A0
variable{a b:List AV}{x y:Int}
theorem SI(I:dN a (some x))(X:dN b (some y))(s: -2^63<x)(r:x<2^63)(k: -2^63<y)(w:y<2^63)(Q:y≠0)(H:aA):
 Sg 196 [.agg a,.agg b] H (.ret (.jS [.agg (cI (aEl x y).1),.agg (cI (aEl x y).2)])) H:=by
 refine Sp aGh Zaq Zaj ?_ H;unfold aCz;dsimp only;have t:=qZ I X;have M:=uQ X;have O:=zA I;have Z:=zA X;have T:fH (some x)=(x,true):=by simp only[fH];rw[if_pos A0]
 have P:fH (some y)=(y,true):=by simp only[fH];rw[if_pos A0]
 rw[T] at O;rw[P] at Z
 have W:(jF (some y)==0)=false:=by simp only[jF];split<;>(try split)<;>first|rfl|omega
 have D:=tdiv_le x y;have V:=tc x Q;have B:IntKind.i64.wrap (x.tdiv y)=x.tdiv y:=wrap_i64 A0 A0;have wr:IntKind.i64.wrap (x.tmod y)=x.tmod y:=wrap_i64 A0 A0;have p:=I.len;have lb:=X.len;have nx:(x != -9223372036854775808)=true:=Gc.2 A0;have ny:(y != -9223372036854775808)=true:=Gc.2 A0;refine bP ?_;refine Ty ?_;refine bQ ?_;have F:(AV.bool false::AV.bool false::wC zs).length=18:=by simp[cE];rfl
 have R:∀z,(cI z).length=18:=fun z=>cC z;generalize G:((((aA.mk 0 .nil).alloc _).alloc _).alloc _).alloc _=HA;have g0:=Kv (i:=0) G;have g:=Kv (i:=1) G;have d:=Kv (i:=2) G;have C:=Kv (i:=3) G;clear G;refine bP ?_;have :=oL p;have :=oL lb;have := @Ee;refine Wz ?_;refine bQ ?_;refine aM fun K hK=>?_;refine bP ?_;refine Wy ?_;refine bQ ?_;clear hK;refine bW fun f N=>?_;have c:=Kf (i:=3) N;have m:=Kf (i:=4) N;have j:=Kf (i:=5) N;have L:=Kf (i:=6) N;have J:=Kf (i:=7) N;clear N;refine bP ?_;refine Wz ?_;refine bQ ?_;simp only[↓zP,zJ,seval,c,g,oL lb];refine fC (Z _) ?_;simp only[↓zP,zJ,seval,ny];refine bW fun u N=>?_;have U:=Ks N m;have h:=Ks N j;have q:=Ks N L;have o:=Kf (i:=8) N;clear N c m j L J;refine Dz ?_
 have e:aEl x y=if(!decide (x.tmod y=0)&&(decide (x.tmod y<0) != decide (y<0)))=true then(x.tdiv y -1,x.tmod y+y) else(x.tdiv y,x.tmod y):=rfl
 have oq:=qN (z:=x.tdiv y) A0 A0;have or:=qN (z:=x.tmod y) A0 A0;have a6:∀H,Sg 51 [.int .i64 (x.tdiv y -1)] H (.ret (.agg (cI (x.tdiv y -1)))) H:=qN A0 A0;have Y:IntKind.i64.wrap (x.tdiv y -1)=x.tdiv y -1:=wrap_i64 A0 A0;by_cases l:x.tmod y=0
 . have A:(x.tmod y != 0)=false:=by simp[l]
   rw[Ag l] at e;simp only[↓zP,zJ,seval,zD,q,o,Q,B,A];refine fC (oq _) ?_;refine Tz ?_;refine fC (or _) ?_;exact Zag
 have A:(x.tmod y != 0)=true:=Gc.2 l;rw[Ab l] at e;by_cases cA:x.tmod y<0
 . have n:=Ag cA;rw[n] at e;by_cases cB:y<0
   . have S:=Ag cB;rw[S] at e;simp only[↓zP,zJ,seval,zD,q,o,Q,B,A,n,S];refine fC (oq _) ?_;refine Tz ?_;refine fC (or _) ?_;exact Zag
   have S:=Ab cB;rw[S] at e;have E:∀H,Sg 51 [.int .i64 (x.tmod y+y)] H (.ret (.agg (cI (x.tmod y+y)))) H:=qN A0 A0;have v:IntKind.i64.wrap (x.tmod y+y)=x.tmod y+y:=wrap_i64 A0 A0;simp only[↓zP,zJ,seval,zD,q,o,Q,B,A,n,S,Y,v];refine fC (a6 _) ?_;refine Tz ?_;refine fC (E _) ?_;exact Zag
 have n:=Ab cA;rw[n] at e;by_cases cB:y<0
 . have S:=Ag cB;rw[S] at e;have E:∀H,Sg 51 [.int .i64 (x.tmod y+y)] H (.ret (.agg (cI (x.tmod y+y)))) H:=qN A0 A0;have v:IntKind.i64.wrap (x.tmod y+y)=x.tmod y+y:=wrap_i64 A0 A0;simp only[↓zP,zJ,seval,zD,q,o,Q,B,A,n,S,Y,v];refine fC (a6 _) ?_;refine Tz ?_;refine fC (E _) ?_;exact Zag
 have S:=Ab cB;rw[S] at e;simp only[↓zP,zJ,seval,zD,q,o,Q,B,A,n,S];refine fC (oq _) ?_;refine Tz ?_;refine fC (or _) ?_;exact Zag
theorem XQ{q r:Int}(Q:y≠0)(h:r+y*q=x)(O:0<y->0<=r/\r<y)(Z:y<0->y<r/\r<=0):x.fdiv y=q/\x.fmod y=r:=by
 rcases Jh Q with A|hp
 . exact(Int.fdiv_fmod_unique' A).2 ⟨h,(Z A).1,(Z A).2⟩
 exact(Int.fdiv_fmod_unique hp).2 ⟨h,(O hp).1,(O hp).2⟩
theorem aNb(Q:y≠0):aEl x y=(x.fdiv y,x.fmod y):=by
 have e:=Int.tmod_add_mul_tdiv x y;have l:=tc x Q;have T:y*(x.tdiv y -1)=y*x.tdiv y -y:=by grind
 obtain⟨q,D⟩:∃q,x.tdiv y=q:=⟨_,rfl⟩;obtain⟨r,V⟩:∃r,x.tmod y=r:=⟨_,rfl⟩;unfold aEl;rw[D] at e T ⊢;rw[V] at e l ⊢
 have key:∀d S,S+y*d=x->(0<y->0<=S/\S<y)->(y<0->y<S/\S<=0)->(d,S)=(x.fdiv y,x.fmod y):=fun d S a b c=>by
  obtain⟨O,Z⟩:=XQ Q a b c
  grind
 grind
theorem XP(Q:y≠0):
 x.fdiv y=(if x.natAbs%y.natAbs≠0/\decide (x<0)≠decide (y<0) then sg (decide (x<0) != decide (y<0)) (x.natAbs / y.natAbs) -1 else sg (decide (x<0) != decide (y<0)) (x.natAbs / y.natAbs))/\
 x.fmod y=sg (decide (y<0)) (if x.natAbs%y.natAbs≠0/\decide (x<0)≠decide (y<0) then y.natAbs -x.natAbs%y.natAbs else x.natAbs%y.natAbs):=by
 have e:=Kb x.natAbs y.natAbs;have l:=Bz x.natAbs (show 0<y.natAbs by omega);generalize x.natAbs / y.natAbs=q at *;generalize x.natAbs%y.natAbs=r at *;have P:(r:Int)+(y.natAbs:Int)*(q:Int)=(x.natAbs:Int):=by omega
 refine XQ Q ?_ ?_ ?_
 all_goals grind[sg]
def pM:Option Int->Option Int->Option Int×Option Int
 |some x,some y=>if y=0 then(none,none) else(some (x.fdiv y),some (x.fmod y))
 |_,_=>(none,none)
theorem tC(Q:y≠0):(x.fdiv y).natAbs<=x.natAbs/\(x.fmod y).natAbs<y.natAbs:=by
 obtain⟨O,Z⟩:=XP (x:=x) Q;have l:=Bz x.natAbs (show 0<y.natAbs by omega);have e:=Kb x.natAbs y.natAbs;have m:x.natAbs / y.natAbs<=y.natAbs*(x.natAbs / y.natAbs):=Gr _ A0
 grind[jY,sg]
variable{x y:Option Int}{v:List AV}
theorem dN.aNc(h:dN v x):dN (cO (pM x y).1) (pM x y).1:=by
 cases x with
 |none=>exact .bad
 |some x=>cases y with
  |none=>exact .bad
  |some y=>
   simp only[pM];split
   . exact .bad
   rename_i Q;exact .enc (Bn (tC Q).1 h.fit)
theorem dN.aYt(h:dN v y):dN (cO (pM x y).2) (pM x y).2:=by
 cases x with
 |none=>exact .bad
 |some x=>cases y with
  |none=>exact .bad
  |some y=>
   simp only[pM];split
   . exact .bad
   rename_i Q;exact .enc (Bt (tC Q).2 h.fit)
theorem DU(I:dN a x)(X:dN b y)(h:(x.isSome&&y.isSome)=false\/y=some 0)(H:aA):
 Sg 196 [.agg a,.agg b] H (.ret (.jS [.agg yA,.agg yA])) H:=by
 refine So aGh Zaq ?_ H;unfold aCz;dsimp only;have t:=qZ I X;have M:=uQ X;have p:=I.len;have S:=X.len;have e:=oL (show yA.length=18 from jU none);refine bP ?_;refine Ty ?_;refine bQ ?_;have F:(AV.bool false::AV.bool false::wC zs).length=18:=by simp[cE];rfl
 generalize G:((((aA.mk 0 .nil).alloc _).alloc _).alloc _).alloc _=f;have g0:=Kv (i:=0) G;have g:=Kv (i:=1) G;have d:=Kv (i:=2) G;have C:=Kv (i:=3) G;clear G;have w:∀b A B,gI aB b A B=B:=fun _ _ _=>rfl;refine aM fun K hK=>?_;have :=oL p;have :=oL S;refine Wy ?_;generalize R:(x.isSome&&y.isSome)=c at *;cases c
 . have :=tV;have :=oL F;refine Wy ?_;exact Zbh
 obtain rfl:y=some 0:=by
  rcases h with h|h
  . cases h
  exact h
 simp only[↓zP,zJ,seval,g,oL S];refine fC (M _) ?_;simp only[↓zP,zG,seval,show(jF (some 0)==0)=true from rfl];refine fC (tV _) ?_;refine fC (tV _) ?_;simp only[↓zP,zJ,seval,d,C,e,F,oL F];exact Zbh
theorem Ut{x y:Int}(hx:x.natAbs<W^16)(c:y.natAbs<W^16)(Q:y≠0)(U:¬(-2^63<x/\x<2^63/\-2^63<y/\y<2^63))(H:aA):
 Sg 196 [.agg (cI x),.agg (cI y)] H (.ret (.jS [.agg (cI (x.fdiv y)),.agg (cI (x.fmod y))])) H:=by
 refine Sp aGh Zaj Zaj ?_ H;unfold aCz;dsimp only;have t:=qZ (.enc hx) (.enc c);have M:=uQ (.enc c);have h1:=zA (.enc hx);have Z:=zA (.enc c);have p:=cC x;have S:=cC y
 have ag:(jF (some y)==0)=false:=by simp only[jF];split<;>(try split)<;>first|rfl|omega
 have lx:=iL (.aV x.natAbs);have V:=iL (.aV y.natAbs);have dx:(cI x).drop 2=wC (aV 16 x.natAbs):=rfl;have dy:(cI y).drop 2=wC (aV 16 y.natAbs):=rfl;have n0:(cI x).getD 1 aB=.bool (decide (x<0)):=rfl;have n1:(cI y).getD 1 aB=.bool (decide (y<0)):=rfl;have R:∀z,(cI z).length=18:=fun z=>cC z;have az:∀b A B,gI aB b A B=B:=fun _ _ _=>rfl;have hq:=OP hx c (show 0<y.natAbs by omega);have hW:W=4294967296:=rfl;obtain⟨a6,a7⟩:=XP (x:=x) Q;have al:x.natAbs / y.natAbs<=x.natAbs:=Fs _ _;have Xy:x.natAbs%y.natAbs<y.natAbs:=Bz _ A0;have ay:=(tC (x:=x) Q).1;generalize hQ:x.natAbs / y.natAbs=q at *;generalize hR:x.natAbs%y.natAbs=r at *;have lq:=iL (.aV q);have E:=iL (.aV r);have ae:decide (aV 16 r=zs)=decide (r=0):=by rw[Aw];exact xL A0
 refine bP ?_;refine Ty ?_;refine bQ ?_;have F:(AV.bool false::AV.bool false::wC zs).length=18:=by simp[cE];rfl
 generalize hX:((((aA.mk 0 .nil).alloc _).alloc _).alloc _).alloc _=I;have g0:=Kv (i:=0) hX;have g:=Kv (i:=1) hX;have d:=Kv (i:=2) hX;have C:=Kv (i:=3) hX;have l:I.next=4:=by subst hX;rfl
 clear hX;refine bP ?_;simp only[↓zP,zJ,seval,g0,g,oL p,oL S];refine fC (t _) ?_;simp only[↓zP,zJ,seval,g,oL S,Bi,Ee];refine fC (M _) ?_;simp only[↓zP,zG,seval,ag];refine bQ ?_;refine aM fun K hK=>?_
 have key:∀f:dD,f 2=.ref 0 0->f 3=.ref 1 0->f 4=.ref 2 0->f 5=.ref 3 0->K f [] I:=by
  intro f s f3 f4 j;apply hK;clear hK K;refine bP ?_;simp only[↓zP,zJ,seval,s,f3,g0,g,oL p,oL S,dx,dy,lx,V];refine fC (hq _) ?_;simp only[↓zP,zJ,seval,l,lq,E];refine bQ ?_;generalize hX:aA.set _ 5 _=D
  replace g:=Kx (i:=1) hX
  replace g0:=Kx (i:=0) hX
  replace d:=Kx (i:=2) hX
  replace C:=Kx (i:=3) hX
  have o:=Kv (i:=4) hX;have w:=Kv (i:=5) hX
  replace l:D.next=6:=by subst hX;simp only[zI,seval,l]
  clear hX I;refine bW fun u N=>?_;have k2:=Ks N s;have k3:=Ks N f3;have k4:=Ks N f4;have k5:=Ks N j;have ad:=Kf (i:=12) N;have e:=Kf (i:=13) N;clear N s f3 f4 j f;have sq:=jL (n:= !(decide (x<0)==decide (y<0))) (m:=q) A0 (z:=sg (decide (x<0) != decide (y<0)) q) rfl;refine bP ?_;simp only[↓zP,zJ,seval,k2,k3,ad,g0,g,o,p,S,n0,n1,lq];refine fC (sq _) ?_;generalize an:sg (decide (x<0) != decide (y<0)) q=k at *;simp only[↓zP,zJ,seval,l,R,F,oL F];refine bQ ?_;generalize hX:aA.set _ 6 _=HC
  replace g:=Kx (i:=1) hX
  replace g0:=Kx (i:=0) hX
  replace d:=Kx (i:=2) hX
  replace C:=Kx (i:=3) hX
  replace w:=Kx (i:=5) hX
  have X:=Kv (i:=6) hX;clear hX l o D;refine bW fun f N=>?_
  replace k2:=Kg (i:=2) N
  replace k3:=Kg (i:=3) N
  replace k4:=Kg (i:=4) N
  replace k5:=Kg (i:=5) N
  replace e:=Kg (i:=13) N
  have a:=Kf (i:=14) N;clear N ad u;refine aM fun K hK=>?_
  have ab:∀(f:dD) (HD:aA) (rr:Nat),x.fmod y=sg (decide (y<0)) rr->rr<W^16->f 3=.ref 1 0->f 4=.ref 2 0->f 5=.ref 3 0->f 13=.ref 5 0->f 14=.ref 6 0->HD.get 1=some (.cells (cI y) false)->
   HD.get 2=some (.cells (AV.bool false::AV.bool false::wC zs) false)->HD.get 3=some (.cells (AV.bool false::AV.bool false::wC zs) false)->HD.get 5=some (.cells (wC (aV 16 rr)) false)->HD.get 6=some (.cells (cI (x.fdiv y)) false)->K f [] HD:=by
   intro f HD rr aj ak k3 k4 k5 e a g d C w X;apply hK;clear hK K;have af:=iL (.aV rr);have sr:=jL (n:=decide (y<0)) ak aj;refine bP ?_;refine Dz ?_;simp only[↓zP,zJ,seval,zD,k3,e,a,g,w,X,S,n1,af,oL (R _)];refine gH (sr _) ?_;simp only[↓zP,zJ,seval,zD,k4,k5,d,C,R,F,oL F];refine bQ ?_;refine Tx ?_;refine⟨rfl,_,by simp only[↓zP,zR,seval,k4,k5,R,oL (R _)];rfl,?_⟩;rfl
  clear hK;by_cases c0:r=0
  . have Y:(!decide (aV 16 r=zs))=false:=by rw[ae,Ag c0];rfl
    rw[if_neg (fun h=>h.1 c0)] at a6 a7;refine Wz ?_;exact Zbz
  have Y:(!decide (aV 16 r=zs))=true:=by rw[ae,Ab c0];rfl
  by_cases c1:decide (x<0)=decide (y<0)
  . have T:(!(decide (x<0)==decide (y<0)))=false:=by rw[c1,Hg];rfl
    rw[if_neg (fun h=>h.2 c1)] at a6 a7;simp only[↓zP,zJ,seval,k2,k3,e,g0,g,w,E,p,S,n0,n1,Y,T];exact Zbz
  have T:(!(decide (x<0)==decide (y<0)))=true:=by rw[beq_false_of_ne c1];rfl
  rw[if_pos ⟨c0,c1⟩] at a6 a7;have o1:=qN (z:=1) A1 A1;have ar:k.natAbs<=x.natAbs:=by rw[<-an,jY];exact al
  have v:=Ug (.enc (show k.natAbs<W^16 by omega)) (.enc (show(1:Int).natAbs<W^16 by decide))
  have CU:nL (some k) (wG (some 1))=some (x.fdiv y):=by show norm (k+ -1)=_;rw[a6];unfold norm;rw[if_pos (by rw[<-Jf,<-a6];omega)];rfl
  rw[CU] at v;have mn:=Qp c (show r<=y.natAbs by omega);have O:=iL (.aV (y.natAbs -r));have aq:(cI y).drop 2=wC (aV 16 y.natAbs):=rfl;refine Wz ?_;refine Dz ?_;simp only[↓zP,zJ,seval,zD,a,X,oL (R _)];refine gH (o1 _) ?_;refine gH (v _) ?_;simp only[↓zP,zJ,seval,zD,k3,e,g,w,S,aq,V,E];refine gH (mn _) ?_;simp only[↓zP,zJ,seval,zD,e,a,w,X,O,E,R,oL (R _)];refine ab _ _ (y.natAbs -r) a7 A0 ?_ ?_ ?_ ?_ ?_ ?_ ?_ ?_ ?_ ?_
  . simp only[zB,seval,k3]
  . simp only[zB,seval,k4]
  . simp only[zB,seval,k5]
  . simp only[zB,seval,e]
  . simp only[zB,seval,a]
  . simp only[zI,seval,g]
  . simp only[zI,seval,d]
  . simp only[zI,seval,C]
  . simp only[zI,seval]
  simp only[zI,seval];rfl
 clear hK;refine bP ?_;refine Wz ?_;refine bQ ?_;refine bW fun f N=>?_;have s:=Kf (i:=2) N;have f3:=Kf (i:=3) N;have f4:=Kf (i:=4) N;have j:=Kf (i:=5) N;have L:=Kf (i:=6) N;have J:=Kf (i:=7) N;clear N;by_cases cx: -2^63<x/\x<2^63
 . have T:fH (some x)=(x,true):=by simp only[fH];rw[if_pos A0]
   have nx:(x != -9223372036854775808)=true:=Gc.2 A0;rw[T] at L J;simp only[↓zP,zJ,seval,L,J,nx,f3,g,oL S];refine fC (Z _) ?_;refine Ty ?_;by_cases cy: -2^63<=y/\y<2^63
   . have P:fH (some y)=(y,true):=(by simp only[fH];rw[if_pos A0]);have ny:(y != -9223372036854775808)=false:=Zaf;simp only[zG,seval,P,ny];exact ZaP
   have P:fH (some y)=(0,false):=(by simp only[fH];rw[if_neg A0]);simp only[zG,seval,P];exact ZaP
 by_cases aE: -2^63<=x/\x<2^63
 . have P:fH (some x)=(x,true):=by simp only[fH];rw[if_pos A0]
   have nx:(x != -9223372036854775808)=false:=Zaf;rw[P] at L J;simp only[↓zP,zG,seval,L,J,nx];exact ZaP
 have P:fH (some x)=(0,false):=by simp only[fH];rw[if_neg A0]
 rw[P] at L J;simp only[↓zP,zG,seval,J];exact ZaP
theorem QA(I:dN a x)(X:dN b y)(H:aA):
 Sg 196 [.agg a,.agg b] H (.ret (.jS [.agg (cO (pM x y).1),.agg (cO (pM x y).2)])) H:=by
 cases x with
 |none=>exact DU I X (.inl rfl) H
 |some x=>cases y with
  |none=>exact DU I X (.inl rfl) H
  |some y=>
   simp only[pM];by_cases Q:y=0
   . rw[if_pos Q];exact DU I X (.inr (by grind)) H
   rw[if_neg Q];by_cases M: -2^63<x/\x<2^63/\-2^63<y/\y<2^63
   . have :=SI I X M.1 M.2.1 M.2.2.1 M.2.2.2 Q H;rw[aNb Q] at this;exact this
   obtain⟨rfl,C⟩:=I.some;obtain⟨rfl,c⟩:=X.some;exact Ut C c Q M H
theorem DI(I:dN a x)(X:dN b y)(H:aA):
 Sg 108 [.agg a,.agg b] H (.ret (.agg (cO (pM x y).1))) H:=by
 refine So bGk Zaq ?_ H;unfold aUj;exact Zai
theorem Uc(I:dN a x)(X:dN b y)(H:aA):
 Sg 109 [.agg a,.agg b] H (.ret (.agg (cO (pM x y).2))) H:=by
 refine So bGl Zaq ?_ H;unfold aUk;exact Zai
theorem ZM{z:Int}(h:z.natAbs<2^64):aP z.natAbs 1*4294967296+aP z.natAbs 0=z.natAbs:=by
 have hW:W=4294967296:=rfl;have Z:aP z.natAbs 0=z.natAbs%W:=by simp[aP]
 have a:aP z.natAbs 1=z.natAbs / W:=by unfold aP;rw[Nat.pow_one,hW,Bl A0]
 rw[Z,a,Cc];exact Dy _ _
theorem zl{x y B:Nat}(C:x<B)(Q:y<B):Nat.gcd x y<B:=by
 rcases Ho x with h|h
 . subst h;rw[Nat.gcd_zero_left];exact Q
 exact Bn (Nat.gcd_le_left _ h) C
theorem aJv{a:Nat}(h:a<2^64):sz a<=2:=by
 rcases PO 16 a with h0|h0
 . unfold sz;omega
 refine Nat.not_lt.1 fun b=>h0 ?_;unfold sz at b;unfold aP;have :W^2<=W^(sk 16 a -1):=Bu A1 A0;have hW:W^2=2^64:=rfl;rw[Du A0];rfl
theorem um{x y:Int}(I:dN a (some x))(X:dN b (some y))(C:x.natAbs<2^64)(Q:y.natAbs<2^64)(H:aA):
 Sg 113 [.agg a,.agg b] H (.ret (.agg (cI (Int.gcd x y)))) H:=by
 refine Sp aGg Zaq Zaj ?_ H;unfold aCt;dsimp only;have t:=qZ I X;have A:=uZ x.natAbs;have Z:=uZ y.natAbs;have p:=I.len;have S:=X.len;obtain⟨rfl,hz⟩:=I.some;obtain⟨rfl,g⟩:=X.some;refine bP ?_;refine Wz ?_;refine fW ?_;have :=oL p;have :=oL S;have := @Ee;refine Wz ?_;refine bQ ?_;have F:(AV.bool false::AV.bool false::wC zs).length=18:=by simp[cE];rfl
 have R:∀z,(cI z).length=18:=fun z=>cC z;generalize hX:(((aA.mk 0 .nil).alloc _).alloc _).alloc _=HA;have g0:=Kx (i:=0) hX;have g1:=Kx (i:=1) hX;have d:=Kx (i:=2) hX;clear hX;refine bW fun f N=>?_;have s:=Kg (i:=2) N;have f3:=Kg (i:=3) N;have f4:=Kg (i:=4) N;clear N;have h:=iL (.aV x.natAbs);have V:=iL (.aV y.natAbs);have dx:(cI x).drop 2=wC (aV 16 x.natAbs):=rfl;have dy:(cI y).drop 2=wC (aV 16 y.natAbs):=rfl;refine aM fun K hK=>?_;refine Wy ?_;have T:decide (((sz x.natAbs:Nat):Int)<=2)=true:=Ag (by have :=aJv C;omega);have e2:decide (((sz y.natAbs:Nat):Int)<=2)=true:=Ag (by have :=aJv Q;omega);refine Wy ?_;refine Dz ?_;have o:=dC x.natAbs 0;have O:=dC x.natAbs 1;have k0:=dC y.natAbs 0;have k1:=dC y.natAbs 1;have hW:W=4294967296:=rfl;have p0:(cI x).getD 2 aB=.int .u32 (aP x.natAbs 0:Nat):=gJ (a:=x.natAbs) (i:=0) A1;have P:(cI x).getD 3 aB=.int .u32 (aP x.natAbs 1:Nat):=gJ (a:=x.natAbs) (i:=1) A1;have k:(cI y).getD 2 aB=.int .u32 (aP y.natAbs 0:Nat):=gJ (a:=y.natAbs) (i:=0) A1;have q1:(cI y).getD 3 aB=.int .u32 (aP y.natAbs 1:Nat):=gJ (a:=y.natAbs) (i:=1) A1;have w0:IntKind.u64.wrap ((aP x.natAbs 0:Nat):Int)=(aP x.natAbs 0:Nat):=jE A0 (.inl rfl);have w1:IntKind.u64.wrap ((aP x.natAbs 1:Nat):Int)=(aP x.natAbs 1:Nat):=jE A0 (.inl rfl);have v0:IntKind.u64.wrap ((aP y.natAbs 0:Nat):Int)=(aP y.natAbs 0:Nat):=jE A0 (.inl rfl);have l:IntKind.u64.wrap ((aP y.natAbs 1:Nat):Int)=(aP y.natAbs 1:Nat):=jE A0 (.inl rfl);have ox:=iu O o;have oy:=iu k1 k0;rw[ZM C] at ox;rw[ZM Q] at oy;simp only[↓zP,zJ,Nat.reduceLT,Nat.reduceEqDiff,Nat.reduceAdd,zD,reduceCtorEq,Nat.reduceLeDiff,Int.reduceLT,s,f3,g0,g1,oL p,oL S,AR,p0,P,k,q1,w0,w1,v0,l,ox,oy];refine bW fun u N=>?_;have U:=Kg (i:=4) N;have j:=Kg (i:=5) N;have L:=Kf (i:=6) N;clear N s f3 f4;refine aJ (kJ [5,6] (fun m vs H'=>H'=HA/\∃a b:Nat,vs=[.int .u64 (a:Nat),.int .u64 (b:Nat)]/\a<2^64/\b<2^64/\m=b/\Nat.gcd a b=Nat.gcd x.natAbs y.natAbs) y.natAbs (by rfl) ?_ ?_)
 . exact⟨rfl,_,_,by simp only[sm,j,L],C,Q,rfl,rfl⟩
 rintro b f H1 E ⟨rfl,a,_,J,r,a6,rfl,w⟩;simp only[zM] at J;obtain⟨M,h6⟩:=J;have f4:=(E 4 rfl).trans U;by_cases D:b=0
 . subst D;have Y:(((0:Nat):Int) != 0)=false:=rfl;have ea:a=Int.gcd x y:=by rw[Nat.gcd_zero_right] at w;exact w
   have B:=Tg r;have hl:=UZ.aV a;have k:((a%W:Nat):Int)=(aP a 0:Nat):=(by simp[aP]);have q1:((a / W%W:Nat):Int)=(aP a 1:Nat):=(by simp[aP]);have c:1<=(List.drop 1 (wC zs)).length:=A1;have e:=jL (n:=false) (m:=a) (Bt r A1) (z:=(a:Int)) rfl;simp only[↓zP,zJ,Nat.reduceLT,Nat.reduceEqDiff,Nat.reduceAdd,Nat.reduceLeDiff,Int.reduceLT,M,h6,Y,CY,NC,k,q1,B,c];refine fC (e _) ?_;simp only[↓zP,zJ,Nat.reduceEqDiff,f4,d,R,F,oL F];refine⟨rfl,_,by simp only[↓zP,zR,Nat.reduceEqDiff,f4,d,R,oL (R _)];rfl,?_⟩;rw[ea];rfl
 have Y:(((b:Nat):Int) != 0)=true:=Gc.2 A0;have a7:¬((b:Nat):Int)=0:=by omega
 refine Wy ?_;refine aJ ?_;refine Dz ?_;refine Wy ?_;have q:Int.tmod (a:Int) (b:Int)=((a%b:Nat):Int):=rfl;have fF:a%b<b:=Bz _ A0;have v:IntKind.u64.wrap ((a%b:Nat):Int)=((a%b:Nat):Int):=jE A0 (.inl rfl);rw[q];exact⟨_,fF,b,a%b,rfl,a6,by omega,rfl,by rw[Ix,<-Nat.gcd_rec,Ix,w]⟩
theorem Oz{x y:Int}(C:x.natAbs<W^16)(Q:y.natAbs<W^16):(Int.gcd x y:Int).natAbs<W^16:=by rw[Cp];exact zl C Q
theorem aCo(n:Nat):∀{x y:Int},y.natAbs=n->x.natAbs<W^16->y.natAbs<W^16->∀H:aA,Sg 113 [.agg (cI x),.agg (cI y)] H (.ret (.agg (cI (Int.gcd x y)))) H:=by
 induction n using Nat.strongRecOn with
 |_ n ih=>
 intro x y hn C Q H;by_cases L:sz x.natAbs<=2/\sz y.natAbs<=2
 . have e:W^2=2^64:=rfl;exact um (.enc C) (.enc Q) (by rw[<-e];exact(Ni C).1 L.1) (by rw[<-e];exact(Ni Q).1 L.2) H
 refine Sp aGg Zaj Zaj ?_ H;unfold aCt;dsimp only;have t:=qZ (.enc C) (.enc Q);have s1:=uZ x.natAbs;have Z:=uZ y.natAbs;have p:=cC x;have S:=cC y;have R:∀z,(cI z).length=18:=fun z=>cC z;have F:(AV.bool false::AV.bool false::wC zs).length=18:=by simp[cE];rfl
 have w:∀b A B,gI aB b A B=B:=fun _ _ _=>rfl;have h:=iL (.aV x.natAbs);have V:=iL (.aV y.natAbs);have dx:(cI x).drop 2=wC (aV 16 x.natAbs):=rfl;have v:(cI y).drop 2=wC (aV 16 y.natAbs):=rfl;refine bP ?_;refine Ty ?_;refine bQ ?_;generalize hX:(((aA.mk 0 .nil).alloc _).alloc _).alloc _=I;have g0:=Kv (i:=0) hX;have g:=Kv (i:=1) hX;have d:=Kv (i:=2) hX;have l:I.next=3:=by subst hX;rfl
 have N:bH I:=by subst hX;exact(((bH.nil _).alloc _).alloc _).alloc _
 clear hX;refine bP ?_;have :=oL p;have :=oL S;have := @Ee;refine Wz ?_;refine bQ ?_;refine bW fun f N=>?_;have s:=Kf (i:=2) N;have c:=Kf (i:=3) N;have X:=Kf (i:=4) N;clear N;refine aM fun K hK=>?_
 have key:∀f:dD,f 2=.ref 0 0->f 3=.ref 1 0->f 4=.ref 2 0->K f [] I:=by
  intro f s c X;apply hK;clear hK K;refine aM fun K hK=>?_;refine bP ?_;refine fT 2 A1 (bH.at2 (by assumption)) fun H1 n1 T=>?_;simp only[↓zP,zJ,seval,zD,s,c,T,g0,g,l,p,S,dx,v,h,V];refine bQ ?_;generalize hX:aA.set _ 4 _=HB
  replace g0:=Kx (i:=0) hX
  replace d:=Kx (i:=2) hX
  have g3:=Kv (i:=3) hX;have o:=Kv (i:=4) hX
  replace l:HB.next=5:=by subst hX;simp only[zI,seval,n1,l]
  clear hX T n1 g N I H1;refine bW fun u N=>?_;have k2:=Ks N s;have k4:=Ks N X;have k7:=Kf (i:=7) N;have k8:=Kf (i:=8) N;clear N s c X f;have J:decide (aV 16 y.natAbs=zs)=decide (y.natAbs=0):=by rw[Aw];exact xL Q
  by_cases k:y.natAbs=0
  . have Y:(!decide (aV 16 y.natAbs=zs))=false:=by rw[J,Ag k];rfl
    have U:=aCa (.enc C)
    have M:aYj (some x)=some (Int.gcd x y:Int):=by have :y=0:=A0;rw[this,Int.gcd_zero_right];rfl
    rw[M] at U;simp only[↓zP,zJ,seval,k8,o,V,Y];apply hK;clear hK K;refine Wz ?_;have a:cO (some (Int.gcd x y:Int))=cI (Int.gcd x y):=rfl;have :=oL F;refine Wz ?_;exact Zcn
  clear hK;have Y:(!decide (aV 16 y.natAbs=zs))=true:=by rw[J,Ab k];rfl
  have D:=OP C Q (show 0<y.natAbs by omega);have Xy:x.natAbs%y.natAbs<y.natAbs:=Bz _ A0;have lq:=iL (.aV (x.natAbs / y.natAbs));have E:=iL (.aV (x.natAbs%y.natAbs));have s1:=jL (n:=false) Q (z:=(y.natAbs:Int)) rfl;have Z:=jL (n:=false) (m:=x.natAbs%y.natAbs) A0 (z:=((x.natAbs%y.natAbs:Nat):Int)) rfl;have j:=ih (x.natAbs%y.natAbs) A0 (x:=(y.natAbs:Int)) (y:=((x.natAbs%y.natAbs:Nat):Int)) rfl (by rw[Cp];exact Q) (by rw[Cp];omega)
  have M:Int.gcd (y.natAbs:Int) ((x.natAbs%y.natAbs:Nat):Int)=Int.gcd x y:=by show Nat.gcd y.natAbs (x.natAbs%y.natAbs)=Nat.gcd x.natAbs y.natAbs;rw[Ix,<-Nat.gcd_rec,Ix]
  rw[M] at j;generalize hR:x.natAbs%y.natAbs=r at *;generalize hQ:x.natAbs / y.natAbs=q at *;simp only[↓zP,zJ,seval,k7,k8,g3,o,h,V,Y];refine fC (D _) ?_;simp only[↓zP,zJ,seval,l,lq,E];refine Dz ?_;simp only[↓zP,zJ,seval,zD,k8,l,o,V];refine gH (s1 _) ?_;simp only[↓zP,zJ,seval,zD,E];refine gH (Z _) ?_;simp only[seval];refine gH (j _) ?_;simp only[↓zP,zJ,seval,zD,k4,l,d,R,F,oL F];exact Zcn
 clear hK;by_cases O:sz x.natAbs<=2
 . have T:decide (((sz x.natAbs:Nat):Int)<=2)=true:=Ag A0;have P:decide (((sz y.natAbs:Nat):Int)<=2)=false:=Ab A0;simp only[↓zP,zJ,seval,s,g0,oL p,dx,h];refine fC (s1 _) ?_;simp only[↓zP,zJ,seval,c,g,oL S,v,V,T];refine fC (Z _) ?_;simp only[↓zP,zG,seval,P];refine key _ ?_ ?_ ?_<;>simp only[zB,seval,s,c,X]
 have T:decide (((sz x.natAbs:Nat):Int)<=2)=false:=Ab A0;simp only[↓zP,zJ,seval,s,g0,oL p,dx,h];refine fC (s1 _) ?_;simp only[↓zP,zG,seval,T];refine key _ ?_ ?_ ?_<;>simp only[zB,seval,s,c,X]
def aFd:Option Int->Option Int->Option Int
 |some x,some y=>some (Int.gcd x y)
 |_,_=>none
theorem kx(I:dN a x)(X:dN b y)(d:(x.isSome&&y.isSome)=false)(H:aA):Sg 113 [.agg a,.agg b] H (.ret (.agg yA)) H:=by
 refine So aGg Zaq ?_ H;unfold aCt;dsimp only;have t:=qZ I X;rw[d] at t;have p:=I.len;have S:=X.len;have F:(AV.bool false::AV.bool false::wC zs).length=18:=by simp[cE];rfl
 have e:=oL (show yA.length=18 from jU none);refine bP ?_;refine Ty ?_;refine bQ ?_;refine aM fun K hK=>?_;have :=oL p;have :=oL S;have :=tV;have :=oL F;refine Wy ?_;exact Zbh
theorem UY(I:dN a x)(X:dN b y)(H:aA):Sg 113 [.agg a,.agg b] H (.ret (.agg (cO (aFd x y)))) H:=by
 cases x with
 |none=>exact kx I X rfl H
 |some x=>cases y with
  |none=>exact kx I X rfl H
  |some y=>obtain⟨rfl,C⟩:=I.some;obtain⟨rfl,Q⟩:=X.some;exact aCo _ rfl C Q H
theorem dN.gcd{w:List AV}(h:dN v x)(Z:dN w y):dN (cO (aFd x y)) (aFd x y):=by
 cases x with
 |none=>exact .bad
 |some x=>cases y with
  |none=>exact .bad
  |some y=>exact .enc (Oz h.fit Z.fit)
end Go.Proofs.YtogfcjbgeebfkaaGreatDoor
namespace Go.Proofs.YtogfcjbgeebfkaaGreatDoor
open Go Go.Av
def aUn:CW Tryz.f112:=⟨_,dI⟩
theorem bGo:Fi 112 aUn:=dK Tryz.func112 aUn
def W42:CW Tryz.f42:=⟨_,Mh⟩
theorem bQj:Fi 42 W42:=dK Tryz.func42 W42
def aUf:CW Tryz.f104:=⟨_,dI⟩
theorem bGg:Fi 104 aUf:=dK Tryz.func104 aUf
end Go.Proofs.YtogfcjbgeebfkaaGreatDoor
namespace Go.Proofs.YtogfcjbgeebfkaaGreatDoor
open Go Go.Av Go.jG
attribute [local congr] aX aQ aR aL bA aW aS aG bB
attribute [local irreducible] FC bT eI
def ZK:Option Int->Option Int->Option Rat
 |some n,some d=>if 0<d/\Int.gcd n d=1 then some (Rat.divInt n d) else none
 |_,_=>none
def cQ(q:Rat):List AV:=cI q.num++cI q.den
def SC:List AV:=yA++cI 1
def eB:Option Rat->List AV
 |some q=>cQ q
 |none=>SC
def CQ(q:Rat):Prop:=q.num.natAbs<W^16/\q.den<W^16
instance (q:Rat):Decidable (CQ q):=inferInstanceAs (Decidable (_/\_))
def gM(v:List AV)(x:Option Rat):Prop:=∃a b n d,v=a++b/\dN a n/\dN b d/\x=ZK n d
variable{n d:Option Int}{q:Rat}
theorem aBq(h:ZK n d=some q):n=some q.num/\d=some (q.den:Int):=by
 cases n with
 |none=>cases h
 |some n=>cases d with
  |none=>cases h
  |some d=>
   simp only[ZK] at h;split at h
   . rename_i hd;obtain rfl:=Aa h;have t:d.gcd n=1:=(by rw[Int.gcd_comm];exact hd.2);rw[Rat.num_divInt,Rat.den_divInt,t,if_neg A0,Int.sign_eq_one_of_pos hd.1];simp;omega
   cases h
theorem aKh(q:Rat):ZK (some q.num) (some (q.den:Int))=some q:=by have O:=Nat.pos_of_ne_zero q.den_nz;have Z:Int.gcd q.num q.den=1:=q.reduced;simp only[ZK];rw[if_pos ⟨by omega,Z⟩,<-Rat.mk_eq_divInt (nz:=q.den_nz) (c:=q.reduced)]
variable{v:List AV}
theorem gM.some(h:gM v (Option.some q)):v=cQ q/\CQ q:=by obtain⟨a,b,n,d,rfl,I,X,C⟩:=h;obtain⟨rfl,rfl⟩:=aBq C.symm;obtain⟨rfl,O⟩:=I.some;obtain⟨rfl,Z⟩:=X.some;exact⟨rfl,O,by simpa using Z⟩
theorem gM.enc(h:CQ q):gM (cQ q) (Option.some q):=⟨_,_,_,_,rfl,.enc h.1,.enc (by simpa using h.2),(aKh q).symm⟩
theorem gM.bad:gM SC none:=⟨_,_,none,Option.some 1,rfl,.bad,.enc A1,rfl⟩
variable{x:Option Rat}
theorem gM.len(h:gM v x):v.length=36:=by obtain⟨a,b,n,d,rfl,I,X,C⟩:=h;rw[An,I.len,X.len]
theorem gM.free(h:gM v x):cW v=true:=by obtain⟨a,b,n,d,rfl,I,X,C⟩:=h;rw[mM,I.free,X.free];rfl
theorem DO(q:Rat):(cQ q).length=36:=by rw[cQ,An,cC,cC]
theorem fA(x:Option Rat):(eB x).length=36:=by
 cases x
 . exact gM.bad.len
 exact DO _
theorem cS(x:Option Rat):cW (eB x)=true:=by
 cases x
 . exact gM.bad.free
 simp only[eB,cQ,mM,dG];rfl
variable{a b:List AV}
theorem rA(I:a.length=18)(X:b.length=18):(a++b).length=36/\(a++b).take 18=a/\(a++b).drop 18=b/\(a++b).take 36=a++b/\(a++b).drop 36=[]:=by refine⟨by rw[An,I,X],by rw[<-I];simp,by rw[<-I];simp,Au Zaf,Bc Zaf⟩
theorem eqI{x y:Int}(C:x.natAbs<W^16)(Q:y.natAbs<W^16):cD [.b,.b,.i,.i,.i,.i,.i,.i,.i,.i,.i,.i,.i,.i,.i,.i,.i,.i] (cI x) (cI y)=some (decide (x=y)):=by
 unfold cI;simp only[cD,FM (cK 16 _) (cK 16 _),Ct,Hg,Dk];congr 1;rw[Dc,Ak,Dl,Aw,Iz,Iz];constructor
 . rintro⟨O,Z⟩;have a:x.natAbs=y.natAbs:=by rw[<-fS C,Z,fS Q]
   omega
 rintro rfl;exact⟨Iff.rfl,rfl⟩
def Mc:List AV:=(AV.bool false::.bool false::wC zs)++(AV.bool false::.bool false::wC zs)
theorem lJ:[AV.bool false,.bool false,.int .u32 0,.int .u32 0,.int .u32 0,.int .u32 0,.int .u32 0,.int .u32 0,.int .u32 0,.int .u32 0,.int .u32 0,.int .u32 0,.int .u32 0,.int .u32 0,.int .u32 0,.int .u32 0,.int .u32 0,.int .u32 0,.bool false,.bool false,.int .u32 0,.int .u32 0,.int .u32 0,.int .u32 0,.int .u32 0,.int .u32 0,.int .u32 0,.int .u32 0,.int .u32 0,.int .u32 0,.int .u32 0,.int .u32 0,.int .u32 0,.int .u32 0,.int .u32 0,.int .u32 0]=Mc:=rfl
theorem gT:Mc.length=36:=rfl
theorem Mb:(AV.bool false::AV.bool false::wC zs).length=18:=rfl
theorem MI{x:Option Int}(I:dN a x)(H:aA):Sg 195 [.agg a] H (.ret (.bool x.isSome)) H:=by
 refine So bIc ZaO ?_ H;unfold aVy;dsimp only;have p:=I.len;obtain⟨r,rfl,-,V⟩:=I.raw;obtain⟨b,n,l,U⟩:=r;have J:=Wq b n U;have w:∀b A B,gI aB b A B=B:=fun _ _ _=>rfl;have Y:(xY.cells ⟨b,n,l,U⟩).getD 0 aB=.bool b:=rfl;simp only[xY.Xl,EB] at V;rw[<-V];change (AV.bool b::.bool n::wC l).length=18 at p;cases b
 . simp only[↓zP,zJ,seval,xY.cells,p,oL p];refine fC (J _) ?_;refine Tz ?_;refine Rx ?_;cases n<;>cases decide (l=zs)<;>rfl
 simp only[↓zP,zJ,seval,xY.cells,p];exact ZaD
theorem PL(H:aA):Sg 147 [] H (.ret (.agg (cI 1))) H:=by refine Sp aSp Zac Zaj ?_ H;unfold aLf;dsimp only;have :=qN (z:=1) A1 A1;refine Wz ?_;refine Rx ?_;rfl
theorem rG(H:aA):Sg 112 [] H (.ret (.agg SC)) H:=by refine Sp bGo Zac (by simp only[sf];exact cS none) ?_ H;unfold aUn;dsimp only;have S:=jU none;have D:=cC 1;have s:=rA S Mb;have Z:=rA S D;rw[show cO none=yA from rfl] at S s Z;refine bP ?_;simp only[↓zP,zG,seval,lJ];refine bQ ?_;have :=tV;have :=PL;have :=oL gT;refine Wz ?_;refine⟨rfl,_,by simp only[↓zP,zR,seval,Z];rfl,?_⟩;rfl
def rQ:Option Int->Option Int->Option Rat
 |some n,some d=>if d=0 then none else some (Rat.divInt n d)
 |_,_=>none
theorem mA(J:gM v x)(H:aA):Sg 107 [.agg v] H (.ret (.bool x.isSome)) H:=by
 refine So bGj Zbj ?_ H;unfold aUi;dsimp only;obtain⟨a,b,n,d,rfl,I,X,rfl⟩:=J;have e:=rA I.len X.len;have g:=MI I;have f:=MI X;have sg:=uQ X;have j:=UY I X;have p:=I.len;have S:=X.len;have w:∀b A B,gI aB b A B=B:=fun _ _ _=>rfl;simp only[↓zP,zJ,seval,e];refine fC (g _) ?_
 cases n with
 |none=>refine Wz ?_;refine Rx ?_;rfl
 |some n=>
 simp only[↓zP,zJ,seval,Bi,e,oL S];refine fC (f _) ?_
 cases d with
 |none=>refine Wz ?_;refine Rx ?_;rfl
 |some d=>
 simp only[↓zP,zJ,seval,Bi,e,oL S];refine fC (sg _) ?_;by_cases hd:0<d
 . have T:decide (jF (some d)>0)=true:=by simp only[jF];split<;>(try split)<;>first|omega|rfl
   have c:cD [.b,.b,.i,.i,.i,.i,.i,.i,.i,.i,.i,.i,.i,.i,.i,.i,.i,.i] (cI (Int.gcd n d)) (cI 1)=some (decide ((Int.gcd n d:Int)=1)):=eqI (Oz I.fit X.fit) A1;simp only[↓zP,zJ,seval,T,e,oL S];refine fC (j _) ?_;refine Tz ?_;refine fC (PL _) ?_;simp only[↓zP,zG,seval,aFd,cO,c];refine Rx ?_;simp only[ZK,hd,Ju];by_cases t:Int.gcd n d=1
   . rw[if_pos t,Ag A0];rfl
   rw[if_neg t,Ab A0];rfl
 have T:decide (jF (some d)>0)=false:=by simp only[jF];split<;>(try split)<;>first|omega|rfl
 refine Wz ?_;refine Rx ?_;simp only[ZK,hd,false_and,Cv];rfl
def Ry(n d:Int):Int:=if d<0 then -(Int.gcd n d:Int) else(Int.gcd n d:Int)
theorem vQ{g k:Int}(h:g≠0):(g*k).fdiv g=k:=by simp_all
theorem Qr{n d:Int}(hd:d≠0):Ry n d≠0/\n.fdiv (Ry n d)=(Rat.divInt n d).num/\d.fdiv (Ry n d)=((Rat.divInt n d).den:Int):=by
 have C:Int.gcd n d≠0:=fun h=>hd (Kr.1 h).2;have t:((Int.gcd n d:Nat):Int)≠0:=by omega
 obtain⟨k,E⟩:=En n d;obtain⟨m,p⟩:=Dq n d;have b:d.gcd n=n.gcd d:=Int.gcd_comm d n;rw[Rat.num_divInt,Rat.den_divInt,if_neg hd,b];generalize D:Int.gcd n d=g at *;have q:0<g:=by omega
 have a:Ry n d=if d<0 then -(g:Int) else(g:Int):=by unfold Ry;rw[D]
 rw[a];have T:∀s:Int,s*n / (g:Int)=s*k:=fun s=>by rw[E,Int.mul_left_comm,Js _ t]
 have P:d.natAbs / g=m.natAbs:=by rw[p,El,Cp,Nat.mul_div_cancel_left _ q]
 rw[T,P];by_cases A:d<0
 . have y:m<0:=by
    rcases Int.lt_or_le m 0 with h|h
    . exact h
    have :=Hd (show 0<=(g:Int) by omega) h;omega
   rw[if_pos A,Int.sign_eq_neg_one_of_neg A];refine⟨by omega,?_,?_⟩
   . conv=>lhs;rw[E]
     rw[show(g:Int)*k= -(g:Int)*(-k) by rw[Int.neg_mul_neg],vQ A0];omega
   conv=>lhs;rw[p]
   rw[show(g:Int)*m= -(g:Int)*(-m) by rw[Int.neg_mul_neg],vQ A0];omega
 have y:0<m:=by
  rcases Int.lt_or_le 0 m with h|h
  . exact h
  have Z:(g:Int)*m<=0:=Int.mul_nonpos_of_nonneg_of_nonpos A0 h;omega
 rw[if_neg A,Int.sign_eq_one_of_pos A0];refine⟨t,?_,?_⟩
 . conv=>lhs;rw[E]
   rw[vQ t,Int.one_mul]
 conv=>lhs;rw[p]
 rw[vQ t];omega
theorem gp{n d:Int}(hd:d≠0)(A:n.natAbs<W^16)(a:d.natAbs<W^16):CQ (Rat.divInt n d):=by
 obtain⟨o,O,Z⟩:=Qr (n:=n) hd;refine⟨?_,?_⟩
 . rw[<-O];exact Bn (tC o).1 A
 have :=(tC (x:=d) o).1;omega
theorem gM.mk(I:dN a n)(X:dN b d):gM (eB (rQ n d)) (rQ n d):=by
 cases n with
 |none=>exact .bad
 |some n=>cases d with
  |none=>exact .bad
  |some d=>
   simp only[rQ];split
   . exact .bad
   rename_i hd;exact .enc (gp hd I.fit X.fit)
theorem rH(I:dN a n)(X:dN b d)(H:aA):
 Sg 106 [.agg a,.agg b] H (.ret (.agg (eB (rQ n d)))) H:=by
 refine Sp bGi Zaq Zat ?_ H;unfold aUh;dsimp only;have g:=MI I;have g2:=MI X;have sg:=uQ X;have j:=UY I X;have p:=I.len;have S:=X.len;have R:∀z,(cI z).length=18:=fun z=>cC z;have t:=oL (show SC.length=36 from fA none);have w:∀b A B,gI aB b A B=B:=fun _ _ _=>rfl;refine aM fun K hK=>?_;simp only[↓zP,zG,seval,lJ];apply hK;clear hK K;generalize hX:(((aA.mk 0 .nil).alloc _).alloc _).alloc _=HA;have HN:HA.next=3:=by subst hX;rfl
 have k:=Kv (i:=0) hX;have de:=Kv (i:=1) hX;have a6:=Kv (i:=2) hX;clear hX;refine aM fun K hK=>?_;have :=oL p;refine Wy ?_
 cases n with
 |none=>have :=rG;have :=oL gT;refine Wy ?_;refine⟨rfl,_,by simp only[↓zP,zR,seval,t];rfl,?_⟩;rfl
 |some n=>
 have :=oL S;refine Wy ?_
 cases d with
 |none=>have :=rG;have :=oL gT;refine Wy ?_;refine⟨rfl,_,by simp only[↓zP,zR,seval,t];rfl,?_⟩;rfl
 |some d=>
 refine Wy ?_;by_cases hd:d=0
 . subst hd;have :(jF (some 0)==0)=true:=rfl;have :=rG;have :=oL gT;refine Wy ?_;refine⟨rfl,_,by simp only[↓zP,zR,seval,t];rfl,?_⟩;rfl
 have T:(jF (some d)==0)=false:=by simp only[jF];split<;>(try split)<;>first|rfl|omega
 refine Wy ?_;apply hK;clear hK K;obtain⟨y,C,Y⟩:=Qr (n:=n) hd;have M:=Oz I.fit X.fit;have v:(Ry n d).natAbs<W^16:=by unfold Ry;split<;>omega
 have P:decide (jF (some d)<0)=decide (d<0):=by rw[Aw];simp only[jF];split<;>(try split)<;>omega
 have q1:=DI I (.enc v);have q2:=DI X (.enc v);have l:(pM (some n) (some (Ry n d))).1=some (Rat.divInt n d).num:=by simp only[pM];rw[if_neg y,C]
 have v2:(pM (some d) (some (Ry n d))).1=some ((Rat.divInt n d).den:Int):=by simp only[pM];rw[if_neg y,Y]
 rw[l] at q1;rw[v2] at q2;have GU:rQ (some n) (some d)=some (Rat.divInt n d):=by simp only[rQ];rw[if_neg hd]
 rw[GU];have q:=PX (.enc M);clear l v2 C Y T GU;generalize Rat.divInt n d=r at *;change ∀H,Sg 113 [.agg a,.agg b] H (.ret (.agg (cI (Int.gcd n d)))) H at j;change ∀H,Sg 108 [.agg a,.agg (cI (Ry n d))] H (.ret (.agg (cI r.num))) H at q1;change ∀H,Sg 108 [.agg b,.agg (cI (Ry n d))] H (.ret (.agg (cI r.den))) H at q2;have L:=rA (R r.num) (R r.den);have x:=rA (R r.num) Mb;have J:cI r.num++cI r.den=cQ r:=rfl;rw[J] at L;refine bW fun f N=>?_;have s:=Kf (i:=2) N;have c:=Kf (i:=3) N;have m:=Kf (i:=4) N;clear N;refine aM fun K hK=>?_;simp only[↓zP,zG,seval,zI,s,c,k,de,oL p,oL S];refine fC (j _) ?_;simp only[↓zP,zG,seval,zI,HN,R,oL Mb];apply hK;clear hK K;generalize hX:aA.set _ 3 _=D;have o:=Kx (i:=0) hX;have O:=Kx (i:=1) hX;have Z:=Kx (i:=2) hX;have Q:=Kv (i:=3) hX;clear hX k de a6 HN HA;refine bW fun u N=>?_;have E:=Ks N s;have e:=Ks N c;have U:=Ks N m;have h:=Kf (i:=5) N;clear N s c m f;refine aM fun K hK=>?_
 have key:∀(f:dD) (V:aA),f 2=.ref 0 0->f 3=.ref 1 0->f 4=.ref 2 0->f 5=.ref 3 0->V.get 0=some (.cells a false)->V.get 1=some (.cells b false)->V.get 2=some (.cells Mc false)->V.get 3=some (.cells (cI (Ry n d)) false)->K f [] V:=by intro f V s c m f5 o O Z Q;apply hK;clear hK K;refine aM fun K hK=>?_;refine Dz ?_;simp only[↓zP,zG,seval,zD,zI,s,f5,o,Q,oL p,oL (R _)];refine gH (q1 _) ?_;simp only[↓zP,zG,seval,zD,zI,c,f5,O,Q,oL S,oL (R _)];refine gH (q2 _) ?_;simp only[↓zP,zG,seval,zD,zI,m,o,O,Z,Q,R,oL gT,L,x,J];apply hK;clear hK K;refine Tx ?_;refine⟨rfl,_,by simp only[↓zP,zR,seval,m,L];rfl,?_⟩;rfl
 simp only[↓zP,zG,seval,zI,e,O,oL S];refine fC (sg _) ?_;simp only[↓zP,zG,seval,P];refine⟨fun Xs=>?_,fun Xs=>?_⟩
 . have F:Ry n d= -(Int.gcd n d:Int):=by unfold Ry;rw[if_pos Xs]
   have ev:AV.agg (cO (wG (some (Int.gcd n d:Int))))=AV.agg (cI (Ry n d)):=(by rw[F];rfl);rw[ev] at q;simp only[zG,seval,zI,h,Q,oL (R _)];refine fC (q _) ?_;simp only[↓zP,zG,seval,zI,h,Q,oL (R _)];refine key _ _ ?_ ?_ ?_ ?_ ?_ ?_ ?_ ?_
   . simp only[zB,seval];exact E
   . simp only[zB,seval];exact e
   . simp only[zB,seval];exact U
   . simp only[zB,seval];exact h
   . simp only[zI,seval,o]
   . simp only[zI,seval,O]
   . simp only[zI,seval,Z]
   simp only[zI,seval]
 have F:Ry n d=(Int.gcd n d:Int):=by unfold Ry;rw[if_neg Xs]
 rw[<-F] at Q;refine key _ _ ?_ ?_ ?_ ?_ o O Z Q
 . simp only[zB,seval];exact E
 . simp only[zB,seval];exact e
 . simp only[zB,seval];exact U
 simp only[zB,seval];exact h
theorem PG(n:Int):rQ (some n) (some 1)=some (n:Rat):=by simp only[rQ];rw[if_neg A1];exact Am some (Rat.num_divInt_den (n:Rat))
theorem GG(I:dN a n)(H:aA):
 Sg 64 [.agg a] H (.ret (.agg (eB (rQ n (some 1))))) H:=by
 refine Sp bKx ZaO Zat ?_ H;unfold W64;dsimp only;have p:=I.len;have mk:=rH I (.enc (z:=1) A1);have E:=oL (fA (rQ n (some 1)));generalize rQ n (some 1)=r at *;refine bP ?_;simp only[↓zP,zG,seval,lJ];refine fW ?_;refine Dz ?_;have :=oL p;have :=PL;have :=oL gT;refine Wz ?_;exact ZaH
variable{z:Int}
theorem EU(o: -2^63<=z)(O:z<2^63)(H:aA):Sg 40 [.int .i64 z] H (.ret (.agg (cQ z))) H:=by refine Sp bKn Zac (by simp only[sf];exact cS (some _)) ?_ H;unfold W40;dsimp only;have s:z.natAbs<W^16:=Bn (show z.natAbs<=2^63 by omega) A1;have a:=GG (.enc s);rw[PG] at a;change ∀H,Sg 64 [.agg (cI z)] H (.ret (.agg (cQ z))) H at a;have E:=oL (DO (z:Rat));have :=qN o O;refine Wz ?_;refine⟨rfl,_,by simp only[↓zP,zR,seval,E];rfl,?_⟩;rfl
def kY:Option Rat->Option Rat->Option Rat
 |some x,some y=>rQ (nL (lY (some x.num) (some ((y.den:Int).fdiv (Int.gcd x.den y.den)))) (lY (some y.num) (some ((x.den:Int).fdiv (Int.gcd x.den y.den))))) (lY (some ((x.den:Int).fdiv (Int.gcd x.den y.den))) (some (y.den:Int)))
 |_,_=>none
variable{y:Option Rat}{w:List AV}
theorem GF(J:gM v x)(L:gM w y)(H:aA):Sg 44 [.agg v,.agg w] H (.ret (.agg (eB (kY x y)))) H:=by
 refine Sp bKp Zau Zat ?_ H;unfold W44;dsimp only;have g1:=mA J;have d:=mA L;have X:=J.len;have lw:=L.len;have R:∀z,(cI z).length=18:=fun z=>cC z;have t:=oL (show SC.length=36 from fA none);have ag:∀b A B,gI aB b A B=B:=fun _ _ _=>rfl;refine bP ?_;simp only[↓zP,zG,seval,lJ];refine bQ ?_;generalize hX:(((aA.mk 0 .nil).alloc _).alloc _).alloc _=I;have S:I.next=3:=by subst hX;rfl
 have k:=Kv (i:=0) hX;have de:=Kv (i:=1) hX;have n:=Kv (i:=2) hX;have N:bH I:=by subst hX;exact(((bH.nil _).alloc _).alloc _).alloc _
 clear hX;refine bP ?_;have :=oL X;refine Wz ?_
 cases x with
 |none=>have :=rG;have :=oL gT;refine Wz ?_;refine⟨rfl,_,by simp only[↓zP,zR,seval,t];rfl,?_⟩;rfl
 |some x=>
 have :=oL lw;refine Wz ?_
 cases y with
 |none=>have :=rG;have :=oL gT;refine Wz ?_;refine⟨rfl,_,by simp only[↓zP,zR,seval,t];rfl,?_⟩;rfl
 |some y=>
 refine Wz ?_;refine bQ ?_;obtain⟨rfl,O,af⟩:=J.some;obtain⟨rfl,ae,ab⟩:=L.some;have C:=rA (R x.num) (R x.den);have Q:=rA (R y.num) (R y.den);change (cQ x).length=36/\(cQ x).take 18=_/\(cQ x).drop 18=_/\_ at C;change (cQ y).length=36/\(cQ y).take 18=_/\(cQ y).drop 18=_/\_ at Q;have P:dN (cI x.den) (some (x.den:Int)):=.enc (by simpa using af);have F:dN (cI y.den) (some (y.den:Int)):=.enc (by simpa using ab);have dj:(Int.gcd x.den y.den:Int)≠0:=fun h=>x.den_nz (by have :=(Kr (a:=(x.den:Int)) (b:=(y.den:Int))).1 A0;omega);have ig:dN (cI (Int.gcd x.den y.den)) (some (Int.gcd x.den y.den:Int)):=.enc (Oz P.fit F.fit);have j:=UY P F;have qp:=DI P ig;have qq:=DI F ig;have l:(pM (some (x.den:Int)) (some (Int.gcd x.den y.den:Int))).1=some ((x.den:Int).fdiv (Int.gcd x.den y.den)):=by simp only[pM];rw[if_neg dj]
 have v2:(pM (some (y.den:Int)) (some (Int.gcd x.den y.den:Int))).1=some ((y.den:Int).fdiv (Int.gcd x.den y.den)):=by simp only[pM];rw[if_neg dj]
 have ip:=dN.aNc (y:=some (Int.gcd x.den y.den:Int)) P;have iq:=dN.aNc (y:=some (Int.gcd x.den y.den:Int)) F;rw[l] at qp ip;rw[v2] at qq iq;have o:kY (some x) (some y)=rQ (nL (lY (some x.num) (some ((y.den:Int).fdiv (Int.gcd x.den y.den)))) (lY (some y.num) (some ((x.den:Int).fdiv (Int.gcd x.den y.den))))) (lY (some ((x.den:Int).fdiv (Int.gcd x.den y.den))) (some (y.den:Int))):=rfl;rw[o];change ∀H,Sg 113 [.agg (cI x.den),.agg (cI y.den)] H (.ret (.agg (cI (Int.gcd x.den y.den)))) H at j;clear l v2 o;generalize (x.den:Int).fdiv (Int.gcd x.den y.den)=p at *;generalize (y.den:Int).fdiv (Int.gcd x.den y.den)=q at *;generalize (Int.gcd x.den y.den:Int)=g at *;change dN (cI q) (some q) at iq;change dN (cI p) (some p) at ip;have m1:=tX (.enc O) iq;have Y:=tX (.enc ae) ip;have ad:=tU (dN.mul (x:=some x.num) (y:=some q)) (dN.mul (x:=some y.num) (y:=some p));have K:=tX ip F;have mk:=rH (dN.add (x:=lY (some x.num) (some q)) (y:=lY (some y.num) (some p))) (dN.mul (x:=some p) (y:=some (y.den:Int)));have lr:=oL (fA (rQ (nL (lY (some x.num) (some q)) (lY (some y.num) (some p))) (lY (some p) (some (y.den:Int)))));generalize rQ (nL (lY (some x.num) (some q)) (lY (some y.num) (some p))) (lY (some p) (some (y.den:Int)))=r at *;refine bW fun f N=>?_;have s:=Kf (i:=2) N;have c:=Kf (i:=3) N;have m:=Kf (i:=4) N;clear N;refine bP ?_;simp only[↓zP,zJ,seval,s,c,k,de,C,Q,oL (R _)];refine fC (j _) ?_;simp only[↓zP,zJ,seval,S,R,oL Mb];refine bQ ?_;generalize hX:aA.set _ 3 _=D;have h0:=Kx (i:=0) hX;have h1:=Kx (i:=1) hX;have Z:=Kx (i:=2) hX;have W:=Kv (i:=3) hX;have a7:D.next=4:=by subst hX;simp only[zI,seval,S]
 have a6:bH D:=by subst hX;exact(N.alloc _).set (by simp only[zI,seval,S]) _
 clear hX k de n S N I;refine bW fun u N=>?_;have E:=Ks N s;have e:=Ks N c;have U:=Ks N m;have XY:=Kf (i:=5) N;clear N s c m f;refine bP ?_;refine fT 2 A1 a6.at2 fun H1 n1 T=>?_;refine Wz ?_;have ak:cO (some p)=cI p:=rfl;have aj:cO (some q)=cI q:=rfl;refine Wz ?_;refine bQ ?_;generalize hX:aA.set _ 5 _=V
 replace h0:=Kx (i:=0) hX
 replace h1:=Kx (i:=1) hX
 replace Z:=Kx (i:=2) hX
 have h4:=Kv (i:=4) hX;have M:=Kv (i:=5) hX;clear hX T n1 a7 a6 W D H1;refine bW fun f N=>?_;have s:=Ks N E;have c:=Ks N e;have m:=Ks N U;have f6:=Kf (i:=6) N;have f7:=Kf (i:=7) N;clear N E e U XY u;refine bP ?_;refine Dz ?_;have :=oL gT;refine Wz ?_;refine bQ ?_;refine Tx ?_;refine⟨rfl,_,by simp only[↓zP,zR,seval,m,lr];rfl,?_⟩;rfl
def lB:Option Rat->Option Rat->Option Rat
 |some x,some y=>if CQ (x*y) then some (x*y) else none
 |_,_=>none
theorem zk(x y:Rat):(x*y).num=(Rat.divInt x.num y.den).num*(Rat.divInt y.num x.den).num/\(x*y).den=(Rat.divInt x.num y.den).den*(Rat.divInt y.num x.den).den:=by
 have O:((x.den:Nat):Int)≠0:=by have :=x.den_nz;omega
 have Z:((y.den:Nat):Int)≠0:=by have :=y.den_nz;omega
 have e:∀(a:Int) (b:Nat),b≠0->(Rat.divInt a b).num=a / ((a.natAbs.gcd b:Nat):Int)/\(Rat.divInt a b).den=b / a.natAbs.gcd b:=fun a b X=>by rw[Rat.num_divInt,Rat.den_divInt,if_neg A0,Int.sign_eq_one_of_pos A0,Int.one_mul,Cp,Int.gcd_comm];exact⟨rfl,rfl⟩
 obtain⟨a1,Q⟩:=e x.num y.den y.den_nz;obtain⟨R,L⟩:=e y.num x.den x.den_nz;rw[a1,Q,R,L];show(Rat.mul x y).num=_/\(Rat.mul x y).den=_;unfold Rat.mul;simp only[Int.divExact_eq_ediv,Nat.divExact_eq_div];exact⟨trivial,Cc _ _⟩
theorem sU(J:gM v x)(L:gM w y)(H:aA):Sg 81 [.agg v,.agg w] H (.ret (.agg (eB (lB x y)))) H:=by
 refine Sp bLe Zau Zat ?_ H;unfold W81;dsimp only;have g:=mA J;have d:=mA L;have X:=J.len;have lw:=L.len;have R:∀z,(cI z).length=18:=fun z=>cC z;have t:=oL (show SC.length=36 from fA none);have af:∀b A B,gI aB b A B=B:=fun _ _ _=>rfl;refine aM fun K hK=>?_;simp only[↓zP,zG,seval,lJ];apply hK;clear hK K;generalize hX:(((aA.mk 0 .nil).alloc _).alloc _).alloc _=I;have S:I.next=3:=by subst hX;rfl
 have k:=Kv (i:=0) hX;have de:=Kv (i:=1) hX;have n:=Kv (i:=2) hX;have N:bH I:=by subst hX;exact(((bH.nil _).alloc _).alloc _).alloc _
 clear hX;refine aM fun K hK=>?_;have :=oL X;refine Wy ?_
 cases x with
 |none=>have :=rG;have :=oL gT;refine Wy ?_;refine⟨rfl,_,by simp only[↓zP,zR,seval,t];rfl,?_⟩;rfl
 |some x=>
 have :=oL lw;refine Wy ?_
 cases y with
 |none=>have :=rG;have :=oL gT;refine Wy ?_;refine⟨rfl,_,by simp only[↓zP,zR,seval,t];rfl,?_⟩;rfl
 |some y=>
 refine Wy ?_;apply hK;clear hK K;obtain⟨rfl,O,ae⟩:=J.some;obtain⟨rfl,r,ad⟩:=L.some;have C:=rA (R x.num) (R x.den);have Q:=rA (R y.num) (R y.den);change (cQ x).length=36/\(cQ x).take 18=_/\(cQ x).drop 18=_/\_ at C;change (cQ y).length=36/\(cQ y).take 18=_/\(cQ y).drop 18=_/\_ at Q;have dx:((x.den:Nat):Int)≠0:=by have :=x.den_nz;omega
 have dy:((y.den:Nat):Int)≠0:=by have :=y.den_nz;omega
 have P:dN (cI x.den) (some (x.den:Int)):=.enc (by simpa using ae);have F:dN (cI y.den) (some (y.den:Int)):=.enc (by simpa using ad);have k1:=rH (.enc O) F;have k2:=rH (.enc r) P;have r1:rQ (some x.num) (some (y.den:Int))=some (Rat.divInt x.num y.den):=by simp only[rQ];rw[if_neg dy]
 have r2:rQ (some y.num) (some (x.den:Int))=some (Rat.divInt y.num x.den):=by simp only[rQ];rw[if_neg dx]
 have f1:=gp dy O F.fit;have s:=gp dx r P.fit;obtain⟨t1,t2⟩:=zk x y;rw[r1] at k1;rw[r2] at k2
 have o:lB (some x) (some y)=if CQ (x*y) then some (x*y) else none:=rfl
 rw[o];clear r1 r2 o;generalize Rat.divInt x.num y.den=a at *;generalize Rat.divInt y.num x.den=b at *;generalize x*y=z at *;generalize V:(if CQ z then some z else none)=zr at *;change ∀H,Sg 106 [.agg (cI x.num),.agg (cI y.den)] H (.ret (.agg (cQ a))) H at k1;change ∀H,Sg 106 [.agg (cI y.num),.agg (cI x.den)] H (.ret (.agg (cQ b))) H at k2;have p:=rA (R a.num) (R a.den);have lb:=rA (R b.num) (R b.den);change (cQ a).length=36/\(cQ a).take 18=_/\(cQ a).drop 18=_/\(cQ a).take 36=cQ a/\(cQ a).drop 36=_ at p;change (cQ b).length=36/\(cQ b).take 18=_/\(cQ b).drop 18=_/\(cQ b).take 36=cQ b/\(cQ b).drop 36=_ at lb;have m1:=tX (.enc f1.1) (.enc s.1);have Y:=tX (.enc (z:=(a.den:Int)) (by simpa using f1.2)) (.enc (z:=(b.den:Int)) (by simpa using s.2));have n1:lY (some a.num) (some b.num)=norm z.num:=by rw[t1];rfl
 have n2:lY (some (a.den:Int)) (some (b.den:Int))=norm (z.den:Int):=by rw[t2,Int.natCast_mul];rfl
 rw[n1] at m1;rw[n2] at Y;have lo:∀x,(cO x).length=18:=fun x=>jU x;clear n1 n2 t1 t2;refine bW fun f N=>?_;have E:=Kf (i:=2) N;have e:=Kf (i:=3) N;have U:=Kf (i:=4) N;clear N;refine aM fun K hK=>?_;refine fT 2 A1 (bH.at2 (by assumption)) fun H1 a6 T=>?_;simp only[↓zP,zG,seval,zD,zI,E,e,T,k,de,S,C,Q,oL (R _)];refine gH (k1 _) ?_;simp only[↓zP,zG,seval,zD,zI,E,e,T,k,de,C,Q,oL (R _)];refine gH (k2 _) ?_;simp only[↓zP,zG,seval,zD,zI,T,p,lb];apply hK;clear hK K;have c:bH H1:=fun j hj=>by rw[T];exact N j A0
 generalize hX:aA.set _ 4 (.cells (cQ b) false)=D;have Z:=Kx (i:=2) hX;have h3:=Kv (i:=3) hX;have h4:=Kv (i:=4) hX;have ab:D.next=5:=by subst hX;simp only[zI,seval,a6,S]
 have a7:bH D:=by subst hX;refine(((c.set ?_ _).set ?_ _).set ?_ _).set ?_ _<;>simp only[zI,seval,a6,S]
 clear hX T a6 N c k de n S I H1;refine bW fun u N=>?_;have k4:=Ks N U;have k5:=Kf (i:=5) N;have k6:=Kf (i:=6) N;clear N E e U f;refine aM fun K hK=>?_;refine fT 2 A1 a7.at2 fun H1 a6 T=>?_;have :=oL Mb;refine Wy ?_;apply hK;clear hK K;generalize hX:aA.set _ 6 (.cells (cO (norm (z.den:Int))) false)=HC
 replace Z:=Kx (i:=2) hX
 have M:=Kv (i:=5) hX;have h6:=Kv (i:=6) hX;clear hX T a6 a7 h3 h4 ab D H1;refine bW fun f N=>?_;have j4:=Ks N k4;have j7:=Kf (i:=7) N;have j8:=Kf (i:=8) N;clear N k4 k5 k6 u;refine aM fun K hK=>?_;by_cases c1:z.num.natAbs<W^16
 . have T:norm z.num=some z.num:=by unfold norm;rw[if_pos c1]
   rw[T] at M;have z0:(cO (some z.num)).getD 0 aB=.bool false:=rfl;by_cases m:z.den<W^16
   . have e2:norm (z.den:Int)=some (z.den:Int):=(by unfold norm;rw[if_pos (by simpa using m)]);rw[e2] at h6;have q:(cO (some (z.den:Int))).getD 0 aB=.bool false:=rfl;rw[if_pos (show CQ z from ⟨c1,m⟩)] at V;have l:∀x:Int,cO (some x)=cI x:=fun _=>rfl;have r1:=rA (R z.num) Mb;have r2:=rA (R z.num) (R z.den);have r3:cI z.num++cI z.den=cQ z:=rfl;have r4:=oL (DO z);rw[r3] at r2;refine Wy ?_;apply hK;clear hK K;have :=oL gT;refine Wz ?_;refine⟨rfl,_,by simp only[↓zP,zR,seval,j4,r4];rfl,?_⟩;rw[<-V];rfl
   have e2:norm (z.den:Int)=none:=(by unfold norm;rw[if_neg (by simpa using m)]);rw[e2] at h6;have q:(cO none).getD 0 aB=.bool true:=rfl;rw[if_neg (show ¬CQ z from fun h=>m h.2)] at V;have :=rG;exact ZbS
 have T:norm z.num=none:=by unfold norm;rw[if_neg c1]
 rw[T] at M;have z0:(cO none).getD 0 aB=.bool true:=rfl;rw[if_neg (show ¬CQ z from fun h=>c1 h.1)] at V;have :=rG;have :=oL gT;exact ZbS
theorem gM.mul:gM (eB (lB x y)) (lB x y):=by
 cases x with
 |none=>exact .bad
 |some x=>cases y with
  |none=>exact .bad
  |some y=>
   simp only[lB];split
   . rename_i h;exact .enc h
   exact .bad
theorem gM.add(J:gM v x)(L:gM w y):gM (eB (kY x y)) (kY x y):=by
 cases x with
 |none=>exact .bad
 |some x=>cases y with
  |none=>exact .bad
  |some y=>exact gM.mk .add .mul
def sZ(a b:Int):Int:=if a<b then -1 else if b<a then 1 else 0
def SE:Option Rat->Option Rat->Int
 |some x,some y=>sZ (x.num*y.den) (y.num*x.den)
 |none,none=>0
 |none,_=> -1
 |_,none=>1
theorem aa(a b:Int): -1<=sZ a b/\sZ a b<=1:=by grind[sZ]
theorem vw{n1 S n2 e:Int}(O:0<S)(Z:0<e):
 (n1.fdiv S≠n2.fdiv e->sZ (n1*e) (n2*S)=sZ (n1.fdiv S) (n2.fdiv e))/\
 (n1.fdiv S=n2.fdiv e->sZ (n1*e) (n2*S)=sZ (n1.fmod S*e) (n2.fmod e*S))/\0<=n1.fmod S/\n1.fmod S<S/\0<=n2.fmod e/\n2.fmod e<e:=by
 have T:=Int.fmod_add_mul_fdiv n1 S;have P:=Int.fmod_add_mul_fdiv n2 e;have a1:=Int.fmod_nonneg_of_pos n1 O;have Q:=Int.fmod_nonneg_of_pos n2 Z;have R:=Int.fmod_lt_of_pos n1 O;have L:=Int.fmod_lt_of_pos n2 Z;generalize n1.fdiv S=q1 at *;generalize n2.fdiv e=q2 at *;generalize n1.fmod S=r1 at *;generalize n2.fmod e=r2 at *;have b:n1*e=r1*e+q1*(S*e):=by rw[<-T,Int.add_mul,Hj S q1,Int.mul_assoc]
 have s:n2*S=r2*S+q2*(S*e):=by grind
 have B:0<=r1*e/\r1*e<S*e:=⟨Hd a1 A0,Ex R Z⟩;have n:0<=r2*S/\r2*S<S*e:=⟨Hd Q A0,by rw[Hj S e];exact Ex L O⟩;generalize S*e=D at *;refine⟨fun h=>?_,fun h=>?_,a1,R,Q,L⟩
 . unfold sZ
   rcases Jh h with h|h
   . have :(q1+1)*D<=q2*D:=Int.mul_le_mul_of_nonneg_right A0 A0
     grind
   have :(q2+1)*D<=q1*D:=Int.mul_le_mul_of_nonneg_right A0 A0
   grind
 grind[sZ]
theorem aEd(a b c d:Int):sZ (a*d) (c*b)= -sZ (b*c) (d*a):=by grind[sZ]
theorem aQi(J:gM v x)(L:gM w y)(H:aA):Sg 42 [.agg v,.agg w] H (.ret (.int .i64 (SE x y))) H:=by
 refine So bQj Zau ?_ H;unfold W42;dsimp only;have g1:=mA J;have d:=mA L;have lv:=J.len;have lw:=L.len;have R:∀z,(cI z).length=18:=fun z=>cC z;have aN:∀b A B,gI aB b A B=B:=fun _ _ _=>rfl;refine bP ?_;refine Tz ?_;refine fW ?_;refine Dz ?_;have :=oL lv;have :=oL lw;refine Wz ?_;refine bQ ?_;refine aM fun K hK=>?_;refine aJ ?_
 cases x with
 |none=>
  cases y<;>
  . refine Wy ?_;exact Zaa
 |some x=>cases y with
  |none=>refine Wy ?_;exact⟨rfl,_,by simp only[↓zP,zR,seval];rfl,rfl⟩
  |some y=>
   refine Wy ?_;apply hK;clear hK K;obtain⟨rfl,ay,ar⟩:=J.some;obtain⟨rfl,r,an⟩:=L.some;have dx:(0:Int)<x.den:=(by have :=x.den_nz;omega);have dy:(0:Int)<y.den:=(by have :=y.den_nz;omega);simp only[SE];generalize G:((aA.mk 0 .nil).alloc _).alloc _=I;have o:I.get 0=some (.cells (cI x.num++cI x.den) false):=(by subst G;simp only[zI,seval];rfl);have O:I.get 1=some (.cells (cI y.num++cI y.den) false):=(by subst G;simp only[zI,seval];rfl);clear G;have aq:(x.den:Int).natAbs<W^16:=(by simpa using ar);have al:(y.den:Int).natAbs<W^16:=(by simpa using an);generalize (x.den:Int)=S at *;generalize (y.den:Int)=e at *;generalize x.num=n1 at *;generalize y.num=n2 at *;generalize j:sZ (n1*e) (n2*S)=C at *;refine bW fun f N=>?_;have f2:=Kf (i:=2) N;have f3:=Kf (i:=3) N;clear N;refine bP ?_;refine Tz ?_;refine fW ?_;refine Tx ?_;refine bQ ?_;refine aM fun K hK=>?_
   refine aJ (kJ [7] (fun m vs H'=>∃n1 S n2 e s:Int,vs=[.int .i64 s]/\m=S.natAbs/\0<S/\0<e/\n1.natAbs<W^16/\n2.natAbs<W^16/\S.natAbs<W^16/\e.natAbs<W^16/\(s=1\/s= -1)/\C=s*sZ (n1*e) (n2*S)/\
    H'.get 0=some (.cells (cI n1++cI S) false)/\H'.get 1=some (.cells (cI n2++cI e) false)) S.natAbs (by rfl) ?_ ?_)
   . exact⟨n1,S,n2,e,1,by simp only[sm,zB,seval],rfl,dx,dy,ay,r,aq,al,.inl rfl,by rw[j];omega,o,O⟩
   clear j o O ay r aq al dx dy g1 d J L lv lw ar an;rintro m f' H1 E ⟨n1,S,n2,e,s,qK,rfl,P,p2,k1,k2,k3,k4,M,j,o,O⟩;simp only[zM] at qK;have j2:f' 2=.ref 0 0:=(by rw[E 2 rfl];simp only[zB,seval];exact f2);have j3:f' 3=.ref 1 0:=Zbt;obtain⟨r1,r2,r3,r4,F,T⟩:=vw (n1:=n1) (n2:=n2) P p2;refine aJ ?_
   have k:∀V:dD,V 7=.int .i64 C->∀H2,K V [] H2:=by intro V q7 H2;apply hK;clear hK K;refine Wz ?_;refine Rx ?_;rfl
   clear hK;have l:∀x:Int,cO (some x)=cI x:=fun _=>rfl;have i1:dN (cI n1) (some n1):=.enc k1;have i2:dN (cI S) (some S):=.enc k3;have i3:dN (cI n2) (some n2):=.enc k2;have i4:dN (cI e) (some e):=.enc k4;have u1:pM (some n1) (some S)=(some (n1.fdiv S),some (n1.fmod S)):=(by simp only[pM];rw[if_neg A0]);have u2:pM (some n2) (some e)=(some (n2.fdiv e),some (n2.fmod e)):=(by simp only[pM];rw[if_neg A0]);have q1:=DI i1 i2;have q2:=DI i3 i4;have m1:=Uc i1 i2;have m2:=Uc i3 i4;have ad:=dN.aNc (y:=some S) i1;have ab:=dN.aNc (y:=some e) i3;have a7:=dN.aYt (x:=some n1) i2;have a6:=dN.aYt (x:=some n2) i4;rw[u1] at q1 m1 ad a7;rw[u2] at q2 m2 ab a6;have cm:=DE ad ab;have ak:=uQ a7;have aj:=uQ a6;have ec:lO (some (n1.fdiv S)) (some (n2.fdiv e))=sZ (n1.fdiv S) (n2.fdiv e):=rfl;have af:=rA (R n1) (R S);have ae:=rA (R n2) (R e)
   have wm:∀t:Int,-1<=t->t<=1->IntKind.i64.wrap (s*t)=s*t:=fun t a b=>by
    rcases M with rfl|rfl
    . rw[Int.one_mul];exact wrap_i64 A0 A0
    rw[Int.neg_one_mul];exact wrap_i64 A0 A0
   obtain⟨aF,aE⟩:=aa (n1.fdiv S) (n2.fdiv e);refine aM fun K2 cY=>?_;refine bP ?_;refine Dz ?_;simp only[↓zP,zJ,seval,zD,j2,o,af,oL (R _)];refine gH (q1 _) ?_;simp only[↓zP,zJ,seval,zD,j3,O,ae,oL (R _)];refine gH (q2 _) ?_;simp only[seval];refine gH (cm _) ?_;simp only[↓zP,zJ,seval,zD,ec];refine bQ ?_;by_cases D:n1.fdiv S=n2.fdiv e
   . have Y:(sZ (n1.fdiv S) (n2.fdiv e) != 0)=false:=(by rw[D];unfold sZ;simp);simp only[↓zP,zG,seval,Y];apply cY;clear cY K2 r1
     replace r2:=r2 D
     clear D Y q1 q2 cm ec ad ab u1 u2 aF aE;generalize aK:n1.fmod S=r1 at *;generalize ed:n2.fmod e=Z at *;rw[l] at a7 a6;simp only[l] at ak aj;have Lf:=rA (R S) (R r1);have Lg:=rA (R e) (R Z);have X:=rA (R S) Mb;have u:=rA (R e) Mb;refine bP ?_;refine Dz ?_;simp only[↓zP,zJ,seval,zD,j2,o,af,oL (R _)];refine gH (m1 _) ?_;simp only[↓zP,zJ,seval,zD,j3,O,ae,oL (R _),l,X];refine gH (m2 _) ?_;simp only[↓zP,zJ,seval,zD,j2,j3,o,O,af,ae,oL (R _),l,u,Lf,Lg];refine bQ ?_;generalize G:(H1.set 0 _).set 1 _=HB;have Q:=Kv (i:=0) G;have b1:=Kv (i:=1) G;clear G o O;refine bW fun g N=>?_;have d:=Ks N j2;have g3:=Ks N j3;have p:=Ks N qK;clear N;refine bP ?_;refine Dz ?_;simp only[↓zP,zJ,seval,zD,d,Q,Lf,oL (R _)];refine gH (ak _) ?_;simp only[↓zP,zJ,seval,zD,g3,b1,Lg,oL (R _)];refine gH (aj _) ?_;simp only[↓zP,zJ,seval,zD];refine bQ ?_;refine aM fun K2 cY=>?_;by_cases q:r1=0
     . have ag:jF (some r1)=0:=by rw[q];rfl
       have e3:s*(0 -jF (some Z))=s*sZ (r1*e) (Z*S):=by
        congr 1;rw[q,Jy];simp only[jF,sZ];by_cases c:Z=0
        . rw[c];simp
        have :=Ev (show 0<Z by omega) P;rw[if_neg A0,if_neg c,if_pos this];rfl
       have U: -1<=0 -jF (some Z)/\0 -jF (some Z)<=1:=(by simp only[jF];split<;>(try split)<;>omega);have w1:IntKind.i64.wrap (0 -jF (some Z))=0 -jF (some Z):=wrap_i64 A0 A0;have w2:=wm _ U.1 U.2;simp only[↓zP,zG,seval,ag,p,w1,w2,show((0:Int)==0)=true from rfl];refine k _ ?_ _;simp only[zB,seval];rw[e3,j,r2]
     have ag:jF (some r1)=1:=(by simp only[jF];rw[if_neg A0,if_neg q]);by_cases c:Z=0
     . have az:jF (some Z)=0:=by rw[c];rfl
       have e3:s*(1 -0)=s*sZ (r1*e) (Z*S):=by congr 1;rw[c,Jy];have :=Ev (show 0<r1 by omega) p2;simp only[sZ];rw[if_neg A0,if_pos this];rfl
       have w2:=wm 1 A0 A0;simp only[↓zP,zG,seval,ag,az,p,show((1:Int)==0)=false from rfl,show((0:Int)==0)=true from rfl,show IntKind.i64.wrap 1=1 from rfl,w2];refine k _ ?_ _;simp only[zB,seval];rw[j,r2,<-e3];rfl
     have az:jF (some Z)=1:=(by simp only[jF];rw[if_neg A0,if_neg c]);have w2:IntKind.i64.wrap (-s)= -s:=wrap_i64 A0 A0;have w3:IntKind.i64.wrap (0 -s)= -s:=wI A0;refine Wx ?_;apply cY;clear cY K2;simp only[↓zP,zJ,seval,p,w3];refine⟨r1.natAbs,by omega,S,r1,e,Z,-s,rfl,rfl,by omega,by omega,k3,k4,a7.fit,a6.fit,by omega,?_,Q,b1⟩;rw[j,r2,aEd r1 S Z e,Kn,Gn]
   have Y:(sZ (n1.fdiv S) (n2.fdiv e) != 0)=true:=by
    unfold sZ
    rcases Jh D with h|h
    . rw[if_pos h];rfl
    rw[if_neg A0,if_pos h];rfl
   have wv:=wm _ aF aE;simp only[↓zP,zG,seval,Y,qK,wv];refine k _ ?_ _;simp only[zB,seval];rw[j,r1 D]
variable{c:Nat->List AV}
theorem jC(h:∀i,i<3->(c i).length=36):(c3 c).length=108:=by simp[c3,h 0 A1,h 1 A1,h 2 A1]
theorem oS(h:∀i,i<3->(c i).length=36){i:Nat}(F:i<3):((c3 c).drop (i*36)).take 36=c i:=by
 have o:=h 0 A1;have O:=h 1 A1;have Z:=h 2 A1
 match i,F with
 |0,_=>simp[c3,o]
 |1,_=>simp[c3,o,O]
 |2,_=>simp[c3,Eu,o,O,Bc (show(c 0).length<=72 by omega),Au (show(c 2).length<=36 by omega)]
def ZR(v:List AV)(x:Nat->Option Rat):Prop:=∃c,v=c3 c/\∀i,i<3->gM (c i) (x i)
variable{x:Nat->Option Rat}
theorem ZR.len(h:ZR v x):v.length=108:=by obtain⟨c,rfl,R⟩:=h;exact jC fun i F=>(R i F).len
theorem ZR.free(h:ZR v x):cW v=true:=by obtain⟨c,rfl,R⟩:=h;exact dZ fun i F=>(R i F).free
def sQ(x y:Nat->Option Rat):Nat->Option Rat
 |0=>some ((0:Int):Rat)
 |i+1=>kY (sQ x y i) (lB (x i) (y i))
theorem gM.int(o: -2^63<=z)(O:z<2^63):gM (cQ z) (Option.some (z:Rat)):=
 .enc ⟨Bn (show z.natAbs<=2^63 by omega) A1,show(1:Nat)<W^16 by decide⟩
theorem gM.sQ(x y:Nat->Option Rat):∀i,gM (eB (sQ x y i)) (sQ x y i)
 |0=>.int (z:=0) A1 A1
 |i+1=>.add (.sQ x y i) .mul
theorem Tv{y:Nat->Option Rat}(J:ZR v x)(L:ZR w y)(H:aA):Sg 104 [.agg v,.agg w] H (.ret (.agg (eB (sQ x y 3)))) H:=by
 refine Sp bGg Zau Zat ?_ H;unfold aUf;dsimp only;obtain⟨a,rfl,I⟩:=J;obtain⟨b,rfl,X⟩:=L;have p:∀i,i<3->(a i).length=36:=fun i F=>(I i F).len;have S:∀i,i<3->(b i).length=36:=fun i F=>(X i F).len;have h:=EU (z:=0) A1 A1;have U:=fA;have t:=DO ((0:Int):Rat);refine aM fun K hK=>?_;simp only[↓zP,zG,seval,lJ];apply hK;clear hK K;refine aM fun K hK=>?_;refine Wy ?_;apply hK;clear hK K;generalize G:aA.set _ 3 _=l;have Q:=Kv (i:=0) G;have R:=Kv (i:=1) G;have e:=Kv (i:=2) G;have k:=Kv (i:=3) G;clear G;refine bW fun f N=>?_;have s:=Kf (i:=2) N;have c:=Kf (i:=3) N;have m:=Kf (i:=4) N;have j:=Kf (i:=5) N;clear N;refine aM fun K hK=>?_;refine aM fun D n=>?_;refine Tz ?_;apply n;clear n D;refine cM [] (fun i _ H'=>H'.get 0=some (.cells (c3 a) false)/\H'.get 1=some (.cells (c3 b) false)/\H'.get 2=some (.cells Mc false)/\H'.get 3=some (.cells (eB (sQ x y i)) false)) 3 A1 rfl A1 ?_ ?_ ?_ ?_
 . exact zq
 . exact⟨Q,R,e,k⟩
 . rintro i u H F E T ⟨g0,g,d,C⟩;have k2:u 2=.ref 0 0:=by rw[E 2 rfl];simp only[zB,seval];exact s
   have k3:u 3=.ref 1 0:=Zbu;have k5:u 5=.ref 3 0:=(by rw[E 5 rfl];simp only[zB,seval];exact j);refine aJ ?_;refine aM fun K hK=>?_;refine Wy ?_;apply hK;clear hK K;refine Dz ?_;simp only[↓zP,zG,seval,zD,zI,k2,k3,k5,aD,F,g0,g,C,jC p,jC S,oS p F,oS S F,show i*36+36<=108 by omega,U,oL (U _)];refine gH (sU (I i F) (X i F) _) ?_;simp only[seval];refine gH (GF (gM.sQ x y i) (gM.mul (x:=x i) (y:=y i)) _) ?_;simp only[↓zP,zG,seval,zD,zI,k5,C,U,oL (U _)];exact⟨g0,g,d,rfl⟩
 rintro u H E ⟨g0,g,d,C⟩;have k4:u 4=.ref 2 0:=by rw[E 4 rfl];simp only[zB,seval];exact m
 have k5:u 5=.ref 3 0:=by rw[E 5 rfl];simp only[zB,seval];exact j
 refine Tx ?_;apply hK;clear hK K;simp only[↓zP,zG,seval,zI,k4,k5,d,C,U,oL (U _),oL gT];refine⟨rfl,_,by simp only[↓zP,zR,seval,k4,U,oL (U _)];rfl,?_⟩;rfl
end Go.Proofs.YtogfcjbgeebfkaaGreatDoor
namespace Go.Proofs.YtogfcjbgeebfkaaGreatDoor
open Go Go.Av Go.jG Go.aC
attribute [local congr] aX aQ aR aL bA aW aS aG bB
attribute [local irreducible] FC bT eI
def pW{α:Type}(x:α->Option Int)(T:List α):Option Int:=T.foldl (fun s t=>nL s (x t)) (some 0)
theorem AP{α:Type}(x:α->Option Int)(T:List α)(t:α):pW x (T++[t])=nL (pW x T) (x t):=by simp[pW]
theorem dN.pW{α:Type}(x:α->Option Int)(T:List α):dN (cO (pW x T)) (pW x T):=by
 rcases List.eq_nil_or_concat T with rfl|⟨j,t,rfl⟩
 . exact .enc A1
 rw[List.concat_eq_append,AP];exact .add
variable{l:List aC.V}{M:Nat}
theorem Rj(U:∀v∈l,bN M v)(g:M<=2^18){t:Nat×Nat×Nat}(O:t.1<l.length)(Z:t.2.1<l.length)(W:t.2.2<l.length):(nF l t).natAbs<=2^60:=by
 have K:∀k,k<l.length->bN M (iI l k):=fun k E=>by
  have :iI l k=l[k]:=by simp[iI,List.getD,E]
  rw[this];exact U _ (Ac E)
 have :=nV (iQ (K _ O) (K _ Z)) (K _ W);have d:M*M<=2^18*2^18:=Be g g;have a:2*(M*M)*M<=2^37*2^18:=Be A0 g;show(dot (aY _ _) _).natAbs<=_;omega
theorem RD{H H':aA}(h:Over H H'){r:Nat}{o:eG}(V:H.get r=some o)(A:r<H.next):H'.get r=some o:=(h.same r A).trans V
def IV(l:List aC.V)(r:Nat)(T:List (Nat×Nat×Nat))(H:aA):Prop:=r<H.next/\H.get r=some (.cells (cO (pW (fun t=>some (nF l t)) T)) false)
theorem aKn(U:∀v∈l,bN M v)(g:M<=2^18)(r:Nat):lg l 139 r (IV l r):=by
 intro T t H O Z W c J ⟨_,hI⟩;have hd:dN (cI (nF l t)) (some (nF l t)):=.enc (Bn (Rj U g O Z W) A1);have q:=tU (dN.pW (fun t=>some (nF l t)) T) hd;rw[<-AP] at q;have lo:∀x,(cO x).length=18:=fun x=>jU x;have a:(yU l t).length=9:=rfl;have n:=cC (nF l t);generalize w:pW (fun t=>some (nF l t)) (T++[t])=E at *;generalize pW (fun t=>some (nF l t)) T=D at *
 obtain⟨_,H',⟨rfl,h⟩,u⟩:=dM (R:=fun o H'=>o=.ret (nN [])/\(H'.get r=some (.cells (cO E) false)/\Me H H' r/\bH H')) fit aSo (args:=[.agg (cI (nF l t)),.agg (yU l t),.ref r 0]) (H:=H) (Ai rfl) (by
  unfold aLe;dsimp only;refine bP ?_;refine Tz ?_;refine bQ ?_;generalize G:(aA.alloc _ _).alloc _=I;have p:I.get H.next=some (.cells (cI (nF l t)) false):=by subst G;rw[aA.aI,if_neg A2,aA.aI,if_pos rfl]
  have X:I.get r=some (.cells (cO D) false):=by subst G;rw[aA.aI,if_neg Zaf,aA.aI,if_neg A0];exact hI
  have S:Over H I:=by subst G;exact((Over.refl H).alloc _).alloc _
  have b:bH I:=by subst G;exact(J.alloc _).alloc _
  clear G;simp only[↓zP,zJ,seval,p,X,lo,oL (lo _),n,oL n];refine fC (q _) ?_;simp only[↓zP,zJ,seval,X,lo,oL (lo _)]
  exact⟨rfl,[],rfl,rfl,by rw[aA.aH,if_pos rfl],(Me.of S).set _,b.set (by have :=S.le;omega) _⟩)
 exact⟨H',u,⟨by have :=h.2.1.1;omega,by rw[w];exact h.1⟩,h.2.1,h.2.2⟩
def oY(S:List (aC.V×Int))(L:aC.V×Int->List Nat):List (Nat×Nat×Nat):=S.flatMap fun q=>lC (L q)
def Rm(l:List aC.V)(S:List (aC.V×Int))(L:aC.V×Int->List Nat):Option Int:=pW (fun t=>some (nF l t)) (oY S L)
theorem Pf{tag:Nat}(q:Nat.blt tag 2=true){l:List aC.V}{M:Nat}(U:∀v∈l,bN M v)(g:M<=2^18)(Q:l.length<=64){S:List (aC.V×Int)}{L:aC.V×Int->List Nat}(u:vJ l S L)(d:S≠[])(y:KG (iI l) l.length)(H:aA):
 Sg 58 [.agg [.bJ tag 3 (bR l)]] H (.ret (.agg (cO (Rm l S L)))) H:=by
 refine So bKu ZaJ ?_ H;unfold W58;dsimp only;have h:=qN (z:=0) A1 A1;have t:=cC 0;have lo:∀x,(cO x).length=18:=fun x=>jU x;refine bP ?_;refine Tz ?_;refine fW ?_;have :=oL Mb;refine Wz ?_;refine bQ ?_;generalize G:aA.set _ 2 _=I;have p:=Kv (i:=0) G;have a1:=Kv (i:=1) G;have e:=Kv (i:=2) G;have f:I.next=3:=by subst G;rfl
 have b:bH I:=by subst G;exact((((bH.nil _).alloc _).alloc _).alloc _).set (by simp only[zI,seval]) _
 clear G;obtain⟨_,w,⟨rfl,J,A,N⟩,C⟩:=Rh q U g Q u d y (IV l 2) (fun T H H' c ⟨O,Z⟩=>⟨Bg O c.le,RD c Z O⟩) (aKn U g 2) (H0:=I) A0 ⟨by omega,e⟩ b;have R:=(A.2 1 A0 A0).trans a1;refine bP ?_;refine Wz ?_;refine bQ ?_;have a:w.get 2=some (.cells (cO (Rm l S L)) false):=J.2;generalize Rm l S L=x at *;simp only[↓zP,zJ,seval,a,R,lo,oL (lo _),oL Mb];refine⟨rfl,_,by simp only[↓zP,zR,seval,lo,oL (lo _)];rfl,?_⟩;rfl
end Go.Proofs.YtogfcjbgeebfkaaGreatDoor
namespace Go.Proofs.YtogfcjbgeebfkaaGreatDoor
open Go Go.Av Go.jG
attribute [local congr] aX aQ aR aL bA aW aS aG bB
attribute [local irreducible] FC bT eI
def GZ:List AV:=Mc++(Mc++Mc)
theorem wT:[AV.bool false,AV.bool false,AV.int .u32 0,AV.int .u32 0,AV.int .u32 0,AV.int .u32 0,AV.int .u32 0,AV.int .u32 0,AV.int .u32 0,AV.int .u32 0,AV.int .u32 0,AV.int .u32 0,AV.int .u32 0,AV.int .u32 0,AV.int .u32 0,AV.int .u32 0,AV.int .u32 0,AV.int .u32 0,AV.bool false,AV.bool false,AV.int .u32 0,AV.int .u32 0,AV.int .u32 0,AV.int .u32 0,AV.int .u32 0,AV.int .u32 0,AV.int .u32 0,AV.int .u32 0,AV.int .u32 0,AV.int .u32 0,AV.int .u32 0,AV.int .u32 0,AV.int .u32 0,AV.int .u32 0,AV.int .u32 0,AV.int .u32 0,AV.bool false,AV.bool false,AV.int .u32 0,AV.int .u32 0,AV.int .u32 0,AV.int .u32 0,AV.int .u32 0,AV.int .u32 0,AV.int .u32 0,AV.int .u32 0,AV.int .u32 0,AV.int .u32 0,AV.int .u32 0,AV.int .u32 0,AV.int .u32 0,AV.int .u32 0,AV.int .u32 0,AV.int .u32 0,AV.bool false,AV.bool false,AV.int .u32 0,AV.int .u32 0,AV.int .u32 0,AV.int .u32 0,AV.int .u32 0,AV.int .u32 0,AV.int .u32 0,AV.int .u32 0,AV.int .u32 0,AV.int .u32 0,AV.int .u32 0,AV.int .u32 0,AV.int .u32 0,AV.int .u32 0,AV.int .u32 0,AV.int .u32 0,AV.bool false,AV.bool false,AV.int .u32 0,AV.int .u32 0,AV.int .u32 0,AV.int .u32 0,AV.int .u32 0,AV.int .u32 0,AV.int .u32 0,AV.int .u32 0,AV.int .u32 0,AV.int .u32 0,AV.int .u32 0,AV.int .u32 0,AV.int .u32 0,AV.int .u32 0,AV.int .u32 0,AV.int .u32 0,AV.bool false,AV.bool false,AV.int .u32 0,AV.int .u32 0,AV.int .u32 0,AV.int .u32 0,AV.int .u32 0,AV.int .u32 0,AV.int .u32 0,AV.int .u32 0,AV.int .u32 0,AV.int .u32 0,AV.int .u32 0,AV.int .u32 0,AV.int .u32 0,AV.int .u32 0,AV.int .u32 0,AV.int .u32 0]=GZ:=rfl
theorem rO:GZ.length=108:=rfl
theorem bEn{a b c:List AV}(I:a.length=36)(X:b.length=36)(R:c.length=36):
 (a++GZ.drop 36).length=108/\(a++GZ.drop 36).take 36=a/\(a++b++(a++GZ.drop 36).drop 72).length=108/\(a++b++(a++GZ.drop 36).drop 72).take 72=a++b/\(a++b++(a++GZ.drop 36).drop 72).drop 108=[]/\
 (a++b++c).length=108/\(a++b++c).drop 108=[]/\(a++b++c).take 108=a++b++c:=by
 have s:=rO;have D:(a++GZ.drop 36).length=108:=by simp;omega
 have B:(a++b++(a++GZ.drop 36).drop 72).length=108:=by rw[An,An,Gi,D];omega
 have U:(a++b++c).length=108:=by rw[An,An];omega
 refine⟨D,by rw[<-I];simp,B,?_,Bc A0,U,Bc A0,Au A0⟩;rw[Cb (by rw[An];omega),Au (by rw[An];omega)]
theorem rq{v:aC.V}(J:∀i,IJ (v.at i))(H:aA):Sg 37 [.agg (cG v)] H (.ret (.agg (c3 fun i=>cQ (v.at i)))) H:=by
 refine Sp bKm Zae (by simp only[sf];exact dZ fun i _=>cS (some _)) ?_ H;unfold W37;dsimp only;simp only[wT];have h:=EU (J 0).1 (J 0).2;have o1:=EU (J 1).1 (J 1).2;have o2:=EU (J 2).1 (J 2).2;have Y:(cG v).getD 0 aB=.int .i64 (v.at 0):=rfl;have T:(cG v).getD 1 aB=.int .i64 (v.at 1):=rfl;have P:(cG v).getD 2 aB=.int .i64 (v.at 2):=rfl;have b:(c3 fun i=>cQ (v.at i))=cQ (v.at 0)++cQ (v.at 1)++cQ (v.at 2):=by unfold c3;simp
 rw[b];have U:=DO;have a:=bEn (U (v.at 0)) (U (v.at 1)) (U (v.at 2));refine bP ?_;refine Tz ?_;refine fW ?_;refine Dz ?_;have := @aT;have :=oL rO;refine Wz ?_;refine bQ ?_;refine Tx ?_;refine⟨rfl,_,by simp only[↓zP,zR,seval,a];rfl,?_⟩;rfl
end Go.Proofs.YtogfcjbgeebfkaaGreatDoor
namespace Go.Proofs.YtogfcjbgeebfkaaGreatDoor
open Go Go.Av Go.jG Go.aC
attribute [local congr] aX aQ aR aL bA aW aS aG bB
attribute [local irreducible] FC bT eI
def sI(l:List aC.V)(t:Nat×Nat×Nat)(i:Nat):Int:=(iI l t.1).at i+(iI l t.2.1).at i+(iI l t.2.2).at i
def uC(l:List aC.V)(i:Nat)(T:List (Nat×Nat×Nat)):Option Int:=pW (fun t=>lY (some (nF l t)) (some (sI l t i))) T
def IC(l:List aC.V)(r:Nat)(T:List (Nat×Nat×Nat))(H:aA):Prop:=r<H.next/\H.get r=some (.cells (c3 fun i=>cO (uC l i T)) false)
variable{M:Nat}
theorem GA{v:aC.V}(h:bN M v)(i:Nat):(v.at i).natAbs<=M:=by obtain⟨O,Z,W⟩:=h;unfold aC.V.at;split<;>assumption
theorem ZG(l:List aC.V)(t:Nat×Nat×Nat){i:Nat}(F:i<3):(yU l t).getD i aB=.int .i64 ((iI l t.1).at i)/\(yU l t).getD (3+i) aB=.int .i64 ((iI l t.2.1).at i)/\(yU l t).getD (6+i) aB=.int .i64 ((iI l t.2.2).at i):=by
 match i,F with
 |0,_=>exact⟨rfl,rfl,rfl⟩
 |1,_=>exact⟨rfl,rfl,rfl⟩
 |2,_=>exact⟨rfl,rfl,rfl⟩
theorem aEa{l:List aC.V}(U:∀v∈l,bN M v)(hM:M<=2^18)(r:Nat):lg l 148 r (IC l r):=by
 intro T t H O Z W hr J ⟨_,hI⟩
 have K:∀k,k<l.length->bN M (iI l k):=fun k E=>by
  have :iI l k=l[k]:=by simp[iI,List.getD,E]
  rw[this];exact U _ (Ac E)
 have hd:dN (cI (nF l t)) (some (nF l t)):=.enc (Bn (Rj U hM O Z W) A1);have lo:∀x,(cO x).length=18:=fun x=>jU x;have l9:(yU l t).length=9:=rfl;have n:=cC (nF l t);have L:=fun i hi=>ZG l t (i:=i) hi
 have hs:∀i,(sI l t i).natAbs<=3*2^18/\((iI l t.1).at i).natAbs<=2^18/\((iI l t.2.1).at i).natAbs<=2^18/\((iI l t.2.2).at i).natAbs<=2^18:=fun i=>by have a1:=GA (K _ O) i;have Q:=GA (K _ Z) i;have a3:=GA (K _ W) i;unfold sI;refine⟨?_,?_,?_,?_⟩<;>omega
 have w:∀i,uC l i (T++[t])=nL (uC l i T) (lY (some (nF l t)) (some (sI l t i))):=fun i=>AP _ _ _;have F:∀i T,dN (cO (uC l i T)) (uC l i T):=fun i T=>dN.pW _ _;have a6:∀i,sI l t i=(iI l t.1).at i+(iI l t.2.1).at i+(iI l t.2.2).at i:=fun i=>rfl
 obtain⟨_,H',⟨rfl,h⟩,hS⟩:=dM (R:=fun o H'=>o=.ret (nN [])/\(H'.get r=some (.cells (c3 fun i=>cO (uC l i (T++[t]))) false)/\Me H H' r/\bH H')) fit aSq (args:=[.agg (cI (nF l t)),.agg (yU l t),.ref r 0]) (H:=H) (Ai rfl) (by
  unfold aLg;dsimp only;refine bP ?_;refine Tz ?_;refine bQ ?_;generalize G:(aA.alloc _ _).alloc _=I;have p:I.get H.next=some (.cells (cI (nF l t)) false):=by subst G;rw[aA.aI,if_neg A2,aA.aI,if_pos rfl]
  have a1:I.get (H.next+1)=some (.cells (yU l t) false):=by subst G;rw[aA.aI,if_pos A2]
  have X:I.get r=some (.cells (c3 fun i=>cO (uC l i T)) false):=by subst G;rw[aA.aI,if_neg Zaf,aA.aI,if_neg A0];exact hI
  have S:Over H I:=by subst G;exact((Over.refl H).alloc _).alloc _
  have b:bH I:=by subst G;exact(J.alloc _).alloc _
  have aN:H.next+1<I.next:=by subst G;simp only[aA.bK];omega
  clear G;refine bW fun f N=>?_;have s:=Kf (i:=2) N;have c:=Kf (i:=3) N;have m:=Kg (i:=4) N;clear N;refine bP ?_;refine Tz ?_;refine bQ ?_;refine cM [] (fun k _ H'=>H'.get r=some (.cells (c3 fun j=>if j<k then cO (uC l j (T++[t])) else cO (uC l j T)) false)/\H'.get H.next=some (.cells (cI (nF l t)) false)/\H'.get (H.next+1)=some (.cells (yU l t) false)/\Me H H' r/\bH H'/\H.next+1<H'.next) 3 A1 rfl A1 ?_ ?_ ?_ ?_
  . exact zq
  . refine⟨?_,p,a1,.of S,b,aN⟩;simp only[Al,Cv];exact X
  . rintro k u H1 a E e1 ⟨d,g0,g,B,C,gn⟩;have k2:u 2=.ref r 0:=by rw[E 2 rfl];simp only[zB,seval];exact s
    have k3:u 3=.ref H.next 0:=Zbu;have k4:u 4=.ref (H.next+1) 0:=(by rw[E 4 rfl];simp only[zB,seval];exact m);have P:∀j,j<3->(if j<k then cO (uC l j (T++[t])) else cO (uC l j T)).length=18:=fun j _=>by split<;>exact lo _
    have D:=qR P a;rw[if_neg A0] at D;obtain⟨q0,q1,q2⟩:=L k a;obtain⟨Y,A,s2,s3⟩:=hs k;have w1:IntKind.i64.wrap ((iI l t.1).at k+(iI l t.2.1).at k)=(iI l t.1).at k+(iI l t.2.1).at k:=wrap_i64 A0 A0;have w2:IntKind.i64.wrap ((iI l t.1).at k+(iI l t.2.1).at k+(iI l t.2.2).at k)=sI l t k:=(by rw[a6];exact wrap_i64 A0 A0);have of:=qN (z:=sI l t k) A0 A0;have mu:=tX hd (dN.enc (z:=sI l t k) (Bn Y A1));have q:=tU (F k T) (dN.mul (x:=some (nF l t)) (y:=some (sI l t k)));rw[<-w] at q;refine aJ ?_;refine bP ?_;simp only[↓zP,zG,seval,e1];refine bQ ?_;refine Dz ?_;simp only[↓zP,zJ,seval,zD,k2,k3,k4,AR,aD,a,d,g0,g,gG P,D,l9,n,oL n,q0,q1,q2,w1,w2,show k*18+18<=54 by omega,show k+1<=9 by omega,show 3+k+1<=9 by omega,show 6+k+1<=9 by omega];refine gH (of _) ?_;simp only[seval];refine gH (mu _) ?_;simp only[seval];refine gH (q _) ?_;simp only[↓zP,zJ,seval,zD,k2,aD,a,d,lo,gG P,show k*18+18<=54 by omega];rw[Zx P a (lo _),if_neg A0,if_neg A0];refine⟨Am (fun l=>eG.cells l false) (iJ fun j _=>?_),g0,g,B.set _,C.set A0 _,gn⟩;by_cases h:j=k
    . exact ZaE
    exact Zal
  rintro u H1 E ⟨d,g0,g,B,C,gn⟩;have e:(c3 fun j=>if j<3 then cO (uC l j (T++[t])) else cO (uC l j T))=c3 fun i=>cO (uC l i (T++[t])):=iJ fun j hj=>if_pos hj;rw[e] at d
  exact⟨rfl,[],rfl,rfl,d,B,C⟩)
 exact⟨H',hS,⟨by have :=h.2.1.1;omega,h.1⟩,h.2.1,h.2.2⟩
theorem RL{c:Nat->List AV}(h:∀i,i<3->(c i).length=36){i:Nat}(F:i<3){x:List AV}(C:x.length=36):
 (c3 c).take (i*36)++x++(c3 c).drop (i*36+36)=c3 (fun j=>if j=i then x else c j):=by
 have o:=h 0 A1;have O:=h 1 A1;have Z:=h 2 A1
 match i,F with
 |0,_=>simp[c3,o]
 |1,_=>simp[c3,Eu,o,O]
 |2,_=>simp[c3,Eu,Hh,o,O,Z,Au (show(c 0).length<=72 by omega),Bc (show(c 0).length<=108 by omega),Bc (show(c 1).length<=72 by omega)]
def XC(l:List aC.V)(S:List (aC.V×Int))(L:aC.V×Int->List Nat)(i:Nat):Option Rat:=rQ (uC l i (oY S L)) (lY (some 4) (Rm l S L))
theorem We{tag:Nat}(q:Nat.blt tag 2=true){l:List aC.V}{M:Nat}(U:∀v∈l,bN M v)(g:M<=2^18)(Q:l.length<=64){S:List (aC.V×Int)}{L:aC.V×Int->List Nat}(u:vJ l S L)(cU:S≠[])(y:KG (iI l) l.length)(H:aA):
 Sg 65 [.agg [.bJ tag 3 (bR l)]] H (.ret (.agg (c3 fun i=>eB (XC l S L i)))) H:=by
 refine Sp bKy ZaJ Zaw ?_ H;unfold W65;dsimp only;simp only[wT];have o4:=qN (z:=4) A1 A1;have l4:=cC 4;have lo:∀x,(cO x).length=18:=fun x=>jU x;have W:=fA;have n:dN (cO (Rm l S L)) (Rm l S L):=dN.pW _ _;have v6:=Pf q U g Q u cU y;have m4:=tX (.enc (z:=4) A1) n;have a6:dN (cO (lY (some 4) (Rm l S L))) (lY (some 4) (Rm l S L)):=dN.mul;have F:∀i,dN (cO (uC l i (oY S L))) (uC l i (oY S L)):=fun i=>dN.pW _ _;have a7:=fun i=>rH (F i) a6;have ab:∀i,rQ (uC l i (oY S L)) (lY (some 4) (Rm l S L))=XC l S L i:=fun i=>rfl;refine bP ?_;refine Tz ?_;refine fW ?_;simp only[↓zP,zJ,seval,sW];refine bQ ?_;generalize G:aA.alloc _ (.cells (c3 fun _=>cI 0) false)=I;have p:=Kv (i:=0) G;have a1:=Kv (i:=1) G;have a2:I.get 2=some (.cells (c3 fun i=>cO (uC l i [])) false):=by subst G;simp only[zI,seval];rfl
 have an:I.next=3:=by subst G;rfl
 have b:bH I:=by subst G;exact(((bH.nil _).alloc _).alloc _).alloc _
 clear G;refine bW fun f N=>?_;have f1:=Kf (i:=1) N;have s:=Kf (i:=2) N;have f3:=Kf (i:=3) N;clear N;obtain⟨_,w,⟨rfl,J,A,N⟩,C⟩:=Rh q U g Q u cU y (IC l 2) (fun T H H' ho ⟨O,Z⟩=>⟨Bg O ho.le,RD ho Z O⟩) (aEa U g 2) (H0:=I) A0 ⟨by omega,a2⟩ b;have b0:=(A.2 0 A0 A0).trans p;have R:=(A.2 1 A0 A0).trans a1;have b2:w.get 2=some (.cells (c3 fun i=>cO (uC l i (oY S L))) false):=J.2;have t:3<=w.next:=by have :=A.1;omega
 clear A J a1 a2 b;refine aM fun K hK=>?_;refine Wy ?_;apply hK;clear hK K an;refine bP ?_;refine fT 1 A1 N.vm fun X n3 B=>?_;have :=oL Mb;refine Wz ?_;refine bQ ?_;generalize G:(X.set w.next _).set w.next _=HB
 replace R:=Kw G B R
 replace b2:=Kw G B b2
 have b4:=Kz G;clear G B n3 N C b0 p I X;generalize w.next=r4 at *;refine bW fun f' N=>?_
 replace s:=Kg (i:=2) N
 replace f3:=Kg (i:=3) N
 have m:=Kf (i:=4) N;clear N f1 f;refine aM fun K hK=>?_;refine bP ?_;refine Tz ?_;refine bQ ?_;refine cM [] (fun k _ H'=>H'.get 1=some (.cells (c3 fun j=>if j<k then eB (XC l S L j) else Mc) false)/\H'.get 2=some (.cells (c3 fun i=>cO (uC l i (oY S L))) false)/\H'.get r4=some (.cells (cO (lY (some 4) (Rm l S L))) false)) 3 A1 rfl A1 ?_ ?_ ?_ ?_
 . exact zq
 . refine⟨?_,b2,b4⟩;simp only[Al,Cv];exact R
 . rintro k f r a E e1 ⟨g1,d,o⟩;have k2:f 2=.ref 1 0:=by rw[E 2 rfl];simp only[zB,seval];exact s
   have k3:f 3=.ref 2 0:=Zbt;have k4:f 4=.ref r4 0:=by rw[E 4 rfl];simp only[zB,seval];exact m
   have P:∀j,j<3->(if j<k then eB (XC l S L j) else Mc).length=36:=fun j _=>by split<;>first|exact W _|rfl
   have c:∀j,j<3->(cO (uC l j (oY S L))).length=18:=fun j _=>lo _;have D:=qR c a;have mk:=a7 k;rw[ab] at mk;refine aJ ?_;refine bP ?_;refine Wy ?_;refine bQ ?_;refine Dz ?_;simp only[↓zP,zJ,seval,zD,k3,k4,aD,a,d,o,gG c,D,lo,oL (lo _),show k*18+18<=54 by omega];refine gH (mk _) ?_;simp only[↓zP,zJ,seval,zD,k2,aD,a,g1,W,jC P,show k*36+36<=108 by omega];rw[RL P a (W _)];refine⟨Am (fun l=>eG.cells l false) (iJ fun j _=>?_),d,by rw[if_neg A0];exact o⟩;by_cases h:j=k
   . exact ZaE
   exact Zal
 rintro f r E ⟨g1,d,o⟩;have k2:f 2=.ref 1 0:=by rw[E 2 rfl];simp only[zB,seval];exact s
 have e:(c3 fun j=>if j<3 then eB (XC l S L j) else Mc)=c3 fun i=>eB (XC l S L i):=iJ fun j Y=>if_pos Y;rw[e] at g1;have P:∀j,j<3->(eB (XC l S L j)).length=36:=fun j _=>W _;have ll:=oL (jC P);refine Tx ?_;apply hK;clear hK K;refine Wz ?_;refine⟨rfl,_,by simp only[↓zP,zR,seval,k2,ll];rfl,?_⟩;rfl
def sdQ(q:aC.V×Int)(x:Nat->Option Rat):Option Rat:=sQ (fun i=>some (q.1.at i:Rat)) x 3
def InQ(S:List (aC.V×Int))(x:Nat->Option Rat):Prop:=∀q∈S,∃y,sdQ q x=some y/\SE (some (q.2:Rat)) (some y)=1
def ofV(v:aC.V):Nat->Option Rat:=fun i=>some ((v.at i:Int):Rat)
end Go.Proofs.YtogfcjbgeebfkaaGreatDoor
namespace Go.Proofs.YtogfcjbgeebfkaaGreatDoor
open Go Go.Av Go.aC Go.jG
attribute [local congr] aX aQ aR aL bA aW aS aG bB
attribute [local irreducible] FC bT eI
def wX(n:aC.V)(m:Int)(l:List aC.V):Int:=l.foldl (fun m v=>if aC.dot n v<m then aC.dot n v else m) m
def wV(n:aC.V)(m:Int)(l:List aC.V):Int:=l.foldl (fun m v=>if aC.dot n v>m then aC.dot n v else m) m
theorem lk(z:Int):cW (cI z)=true:=dG z
theorem rz{tag:Nat}(q:Nat.blt tag 2=true){l:List aC.V}{M B:Nat}(U:∀v∈l,bN M v)(Q:l.length<2^30)(g:M<=2^18){n:aC.V}(hn:bN B n)(hB:B<=2^62){x0:aC.V}{r:List aC.V}(hx:l=x0::r)(H:aA):
 Sg 94 [.agg [.bJ tag 3 (bR l)],.agg (cG n)] H (.ret (.jS [.agg (cI (wX n (aC.dot n x0) l)),.agg (cI (wV n (aC.dot n x0) l))])) H:=by
 have hI:∀{A:Nat} {v:aC.V},bN A v->A<=2^62->∀i,IJ (v.at i):=fun {A v} h hA i=>by have :=bN.c h i;unfold IJ;omega
 have ak:B*M<=2^62*2^18:=Be hB g
 have a6:∀v∈l,∀H,Sg 185 [.agg (cG n),.agg (cG v)] H (.ret (.agg (cI (aC.dot n v)))) H:=fun v J H=>by
  have :=aCf (hI hn hB) (hI (U v J) A0) H
  rwa [XT hn (U v J) (by
   have :(2:Nat)^62*2^18*3<2^240:=by decide
   omega)] at this
 refine Sp bQz (by simp only[sf,cT q,bV]) (by simp only[AV.free,cW,lk];rfl) ?_ H;unfold W94;dsimp only;have s:0<l.length:=by rw[hx];simp
 have af:l[0]=x0:=by subst hx;rfl
 have g0:=cH s;have I:=a6 _ (Ac s);have p:asNat (.int .i64 0)=some 0:=rfl;have R:∀z,(cI z).length=18:=fun z=>by simp[cI,cE,cK]
 refine bP ?_;refine Ty ?_;refine fW ?_;refine Dz ?_;simp only[↓zP,zJ,seval,zD,p,aU,s,g0,oL (aT l[0]),oL (aT n)];have rU:(AV.bool false::AV.bool false::wC zs).length=18:=by simp[cE];rfl
 refine gH (I _) ?_;simp only[↓zP,zJ,seval,zD,p,aU,s,g0,oL (aT l[0]),oL (aT n)];refine gH (I _) ?_;rw[af];generalize hd:aC.dot n x0=Z at *;simp only[↓zP,zJ,seval,zD,R,rU,oL rU];refine bQ ?_;refine aM fun K hK=>?_;refine bP ?_;refine Ty ?_;refine bQ ?_;refine bS [] (fun i _ H'=>H'.get 1=some (.cells (cG n) false)/\H'.get 2=some (.cells (cI (wX n Z (l.take i))) false)/\H'.get 3=some (.cells (cI (wV n Z (l.take i))) false)/\4<=H'.next/\(wX n Z (l.take i)).natAbs<=3*(B*M)/\(wV n Z (l.take i)).natAbs<=3*(B*M)) l.length A0 A1 ?_ ?_ ?_ ?_ ?_
 . exact zq
 . exact ZbM
 . have X:=nV hn (U x0 (by rw[hx];simp));rw[hd] at X;exact⟨by simp only[zI,seval],by simp only[zI,seval];rfl,by simp only[zI,seval];rfl,by simp only[zI,seval],X,X⟩
 . rintro i f H1 F E T ⟨C,Y,m3,ad,b1,L⟩;have t:=cH F;have vW:=Ac F;have ae:=a6 _ vW;have X:=nV hn (U _ vW)
   have NJ:wX n Z (l.take (i+1))=if aC.dot n l[i]<wX n Z (l.take i) then aC.dot n l[i] else wX n Z (l.take i):=by unfold wX;rw[Ao,Ic];simp[F]
   have yk:wV n Z (l.take (i+1))=if aC.dot n l[i]>wV n Z (l.take i) then aC.dot n l[i] else wV n Z (l.take i):=by unfold wV;rw[Ao,Ic];simp[F]
   rw[NJ,yk];generalize wX n Z (l.take i)=lo at *;generalize wV n Z (l.take i)=N at *;generalize l[i]=x at *;generalize aC.dot n x=d at *;have n1:¬(1=H1.next):=A0;have n2:¬(2=H1.next):=A0;have n3:¬(3=H1.next):=A0;refine aJ ?_;refine bP ?_;simp only[↓zP,zJ,seval,T,E 22 rfl,aD,aU,F,t,oL (aT x)];refine fW ?_;simp only[↓zP,zJ,seval,E 3 rfl,n1,C,oL (aT x),oL (aT n)];refine fC (ae _) ?_;simp only[↓zP,zJ,seval,R,rU,oL rU];refine bQ ?_;generalize G:(((H1.alloc _).set H1.next _).alloc _).set (H1.next+1) _=o;have y1:o.get 1=some (.cells (cG n) false):=(by subst G;rw[aA.aH,if_neg A0,aA.aI,if_neg Zaf,aA.aH,if_neg A0,aA.aI,if_neg A0];exact C);have k:o.get 2=some (.cells (cI lo) false):=(by subst G;rw[aA.aH,if_neg A0,aA.aI,if_neg Zaf,aA.aH,if_neg A0,aA.aI,if_neg A0];exact Y);have y3:o.get 3=some (.cells (cI N) false):=(by subst G;rw[aA.aH,if_neg A0,aA.aI,if_neg Zaf,aA.aH,if_neg A0,aA.aI,if_neg A0];exact m3);have y8:=Kz G;have O:4<=o.next:=Zan;clear G;generalize aj:H1.next+1=w at *
   have ag:3*(B*M)<W^16:=by have :3*(2^62*2^18)<W^16:=A1;omega
   have mI:dN (cI d) (some d):=.enc A0;have a7:dN (cI lo) (some lo):=.enc A0;have ab:dN (cI N) (some N):=.enc A0;have q2:¬(2=w):=A0;have q3:¬(3=w):=A0;refine aM fun D cY=>?_
   have j:∀y:Int,(decide (lO (some d) (some y)<0)=decide (d<y))/\(decide (lO (some d) (some y)>0)=decide (d>y)):=fun y=>by constructor<;>(rw[Aw];simp only[lO];split<;>(try split)<;>omega)
   have key:∀(u:dD) (H':aA) (a:Int),u 8=.ref w 0->u 5=.ref 3 0->H'.get w=some (.cells (cI d) false)->H'.get 1=some (.cells (cG n) false)->H'.get 2=some (.cells (cI a) false)->H'.get 3=some (.cells (cI N) false)->4<=H'.next->a=(if d<lo then d else lo)->D u [] H':=by
    intro u H' a v8 v5 p8 P S p3 pn b;apply cY;clear cY D;simp only[↓zP,zJ,seval,v8,v5,p8,p3,R,oL (R d),oL (R N)];refine fC (DE mI ab _) ?_;have JH:(if d<lo then d else lo).natAbs<=3*(B*M):=ZaN;by_cases m:d>N
    . have e:decide (lO (some d) (some N)>0)=true:=(by rw[(j N).2];exact Ag m);simp only[↓zP,zJ,seval,e,v8,v5,p8,p3,R,oL (R d),oL (R N)];rw[if_pos m,<-b];exact⟨P,S,rfl,pn,by rw[b];exact JH,X⟩
    have e:decide (lO (some d) (some N)>0)=false:=(by rw[(j N).2];exact Ab m);simp only[↓zP,zG,seval,e];rw[if_neg m,<-b];exact⟨P,S,p3,pn,by rw[b];exact JH,L⟩
   simp only[↓zP,zJ,seval,E 4 rfl,y8,k,R,oL (R d),oL (R lo)];refine fC (DE mI a7 _) ?_;by_cases c1:d<lo
   . have d1:decide (lO (some d) (some lo)<0)=true:=(by rw[(j lo).1];exact Ag c1);simp only[↓zP,zJ,seval,d1,E 4 rfl,y8,k,R,oL (R d),oL (R lo)];refine key _ _ d zq (by simp only[zB,seval];exact E 5 rfl) ?_ ?_ ?_ ?_ ?_ (if_pos c1).symm
     . rw[aA.aH,if_neg A0];exact y8
     . rw[aA.aH,if_neg A0];exact y1
     . exact ZaR
     . rw[aA.aH,if_neg A0];exact y3
     rw[aA.aZ];exact O
   have d1:decide (lO (some d) (some lo)<0)=false:=(by rw[(j lo).1];exact Ab c1);refine Wy ?_;exact key _ _ lo zq (by simp only[zB,seval];exact E 5 rfl) y8 y1 k y3 O (if_neg c1).symm
 rintro f H1 E ⟨C,Y,m3,ad,b1,L⟩;rw[Aq] at Y m3;refine Tx ?_;apply hK;clear hK K;refine bP ?_;refine Dz ?_;simp only[↓zP,zJ,seval,zD,E 4 rfl,E 5 rfl,Y,m3,R,oL (R (wX n Z l)),oL (R (wV n Z l))];refine bQ ?_;refine Tx ?_;refine⟨rfl,_,by simp only[↓zP,zR,seval,E 4 rfl,E 5 rfl,R,oL (R (wX n Z l)),oL (R (wV n Z l))];rfl,?_⟩;rfl
variable{ta tb:Nat}
theorem SH(a b:List aC.V)(H:aA):Sg 93 [.agg [.bJ ta 3 (bR a)],.agg [.bJ tb 3 (bR b)]] H (.ret (.func (.func 181) [] [.ref H.next 0,.ref (H.next+1) 0])) ((H.alloc (.cells [.bJ ta 3 (bR a)] false)).alloc (.cells [.bJ tb 3 (bR b)] false)):=by refine oX bQy (Ai rfl) ?_;unfold W93;dsimp only;refine bP ?_;refine Ty ?_;refine bQ ?_;refine Ty ?_;refine Rx ?_;exact⟨rfl,rfl⟩
def Mw(U W:List aC.V):List aC.V:=U.flatMap fun u=>W.filterMap fun w=>if aC.aY u w=V0 then none else some (aC.aY u w)
def mF(l C:List (aC.V×Int))(U W:List aC.V):List aC.V:=(l++C).map (·.1)++Mw U W
def pre(D:List aC.V)(U W:List aC.V)(i j:Nat):List aC.V:=D++Mw (U.take i) W++Mw ((U.drop i).take 1) (W.take j)
theorem Uo(A B W:List aC.V):Mw (A++B) W=Mw A W++Mw B W:=by simp only[Mw,Gg]
theorem l5(u:aC.V)(A B:List aC.V):Mw [u] (A++B)=Mw [u] A++Mw [u] B:=by simp only[Mw,Dw,List.flatMap_nil,Bx,List.filterMap_append]
theorem bEg(A:List aC.V):Mw A []=[]:=by simp[Mw]
theorem aEh(u w:aC.V):Mw [u] [w]=if aC.aY u w=V0 then [] else [aC.aY u w]:=by by_cases h:aC.aY u w=V0<;>simp[Mw,h]
variable{U:List aC.V}{i:Nat}
theorem yT(h:i<U.length):(U.drop i).take 1=[U[i]]:=by rw[Fb h];rfl
theorem HY(h:i<U.length):U.take (i+1)=U.take i++[U[i]]:=by rw[Ao];simp[h]
theorem Vt(D U W:List aC.V)(i:Nat):pre D U W i 0=D++Mw (U.take i) W:=by simp[pre,bEg]
variable{D W:List aC.V}
theorem aQc(h:i<U.length):pre D U W i W.length=pre D U W (i+1) 0:=by rw[Vt,HY h,Uo];simp only[pre,yT h,Aq,Dg]
theorem aIg{j:Nat}(h:i<U.length)(Y:j<W.length):pre D U W i (j+1)=pre D U W i j++Mw [U[i]] [W[j]]:=by simp only[pre,yT h,HY Y,l5,Dg]
theorem aQb(l C:List (aC.V×Int))(U W:List aC.V):mF l C U W=pre ((l++C).map (·.1)) U W U.length 0:=by rw[Vt,Aq];rfl
theorem aQd{j:Nat}(h:i<U.length)(Y:j<=W.length):∃R,pre D U W U.length 0=pre D U W i j++R:=by
 refine⟨Mw [U[i]] (W.drop j)++Mw (U.drop (i+1)) W,?_⟩;rw[Vt,Aq]
 have e:U=U.take i++([U[i]]++U.drop (i+1)):=by rw[List.singleton_append,<-Fb h,Ih]
 have P:Mw [U[i]] W=Mw [U[i]] (W.take j)++Mw [U[i]] (W.drop j):=by rw[<-l5,Ih]
 conv=>lhs;rw[e]
 rw[Uo,Uo,P];simp only[pre,yT h,Dg]
theorem Oe{a b:List aC.V}{l C:List (aC.V×Int)}{La Lb:aC.V×Int->List Nat}{MU:Nat}(an:MU<=2^20)
 (fa:∀H,Sg 182 [.agg [.bJ ta 3 (bR a)]] H (.ret (.bJ (H.next+2) 5 (l.map (cX La)))) (H.alloc .tok))
 (fb:∀H,Sg 182 [.agg [.bJ tb 3 (bR b)]] H (.ret (.bJ (H.next+2) 5 (C.map (cX Lb)))) (H.alloc .tok))
 (ea:∀H,Sg 183 [.agg [.bJ ta 3 (bR a)]] H (.ret (.bJ 0 3 (bR U))) H)
 (eb:∀H,Sg 183 [.agg [.bJ tb 3 (bR b)]] H (.ret (.bJ 0 3 (bR W))) H)
 (nU:∀v∈U,bN MU v) (nW:∀v∈W,bN MU v) (bt:l.length<=64) (bs:C.length<=64) (b5:C≠[]) (lU:U.length<=2^20) (lW:W.length<=2^20)
 {id r1 r2:Nat} {o1 o2:Bool} {H:aA} (I:Nat->aA->Prop) (a6:aA->Prop) (t:aC.V->Bool) (A:∀k H H',Over H H'->I k H->I k H') (c4:∀H H',Over H H'->a6 H->a6 H')
 (gC:∀k (E:k<(mF l C U W).length) H1,I k H1->∃H',tY Tryz.prog gv id [.agg (cG (mF l C U W)[k])] H1 (.ret (.bool (!t (mF l C U W)[k]))) H'/\(if t (mF l C U W)[k] then a6 H' else I (k+1) H')/\H1.next<=H'.next/\∀j,H.next<=j->j<H1.next->H'.get j=H1.get j)
 (ba:∀k H1,I k H1->H.next<=H1.next) (b1:r1<H.next) (b2:r2<H.next) (g:H.get r1=some (.cells [.bJ ta 3 (bR a)] o1)) (g2:H.get r2=some (.cells [.bJ tb 3 (bR b)] o2))
 (zb:∀k H',I k H'->H'.get r1=some (.cells [.bJ ta 3 (bR a)] o1)/\H'.get r2=some (.cells [.bJ tb 3 (bR b)] o2)) (o:I 0 H):
 ∃H',(if(mF l C U W).any t then a6 H' else I (mF l C U W).length H')/\Sg 181 [.yield id,.ref r1 0,.ref r2 0] H (.ret (.jS [])) H':=by
 suffices h:∃out H',(out=.ret (.jS [])/\if(mF l C U W).any t then a6 H' else I (mF l C U W).length H')/\Sg 181 [.yield id,.ref r1 0,.ref r2 0] H out H' by obtain⟨_,H',⟨rfl,hm⟩,hS⟩:=h;exact⟨H',hm,hS⟩
 refine dM fit bHt (Ai rfl) ?_;unfold aVp;dsimp only;refine aM fun K hK=>?_;refine bP ?_;refine Dz ?_;have k2:(H.alloc .tok).get r2=H.get r2:=by rw[aA.aI,if_neg A0]
 simp only[↓zP,zJ,seval,zD,g];refine DF A1 ZaX (fa _) A2 (fun x hx m=>by simp only[Bw] at hx;subst hx;simp at m) ?_;simp only[↓zP,zJ,seval,zD,g2,k2];refine⟨by rw[if_neg A0],?_⟩;refine DF A1 ZaX (fb _) A2 (fun x hx m=>by simp at m) ?_;have bn:Own ((H.alloc .tok).alloc .tok) 5 (.bJ (H.next+2) 5 (l.map (cX La))) (l.map (cX La)):=.inr ⟨H.next,rfl,by simp;omega,by rw[aA.aI,if_neg A2,aA.aI,if_pos rfl]⟩;obtain⟨v',H5,z1,z2,z3⟩:=bn.append (ys:=C.map (cX Lb)) (bytes:=56) (by simp only[Ah];omega)
 have aF:Over H H5:=⟨by have :=z3.next;simp at this;omega,fun j Y=>by rw[z3.get j (by simp[ZE];omega) Zaf,aA.aI,if_neg Zaf,aA.aI,if_neg A0]⟩
 rcases z2 with ⟨_,h⟩|⟨tk,rfl,_,_⟩
 . simp at h;exact absurd h.2 b5
 simp only[↓zP,zJ,seval,zD];rw[show ∀(h:aA) (n:Nat) (y:List (List AV)),dJ h 5 (.bJ n 5 y)=some y from fun _ _ _=>rfl];simp only[z1,bX,↓zP,seval,zD,An,Ah];refine⟨by have :=z3.next;simpa using this,?_⟩;refine bQ ?_;have L:(l++C).length<=(mF l C U W).length:=by simp only[mF,An,Ah];omega
 have p:∀i (h:i<(l++C).length),(mF l C U W)[i]'(Bg h L)=((l++C)[i]).1:=fun i h=>by simp only[mF];rw[List.getElem_append_left Zcx,Cr]
 have VK:∀i (h:i<(l++C).length),((l.map (cX La)++C.map (cX Lb)).getD i []).length=5/\((l.map (cX La)++C.map (cX Lb)).getD i []).take 3=cG ((l++C)[i]).1:=fun i h=>by
  by_cases O:i<l.length
  . have :(l.map (cX La)++C.map (cX Lb)).getD i []=cX La l[i]:=by simp[List.getD,Dp,O]
    rw[this,List.getElem_append_left O];exact ZbJ
  have Z:i -l.length<C.length:=by rw[An] at h;omega
  have :(l.map (cX La)++C.map (cX Lb)).getD i []=cX Lb C[i -l.length]:=by simp[List.getD,Dp,O,Z]
  rw[this,List.getElem_append_right A0];exact ZbJ
 refine bS [] (fun i vs H'=>I i H'/\∀k,k<i->∀h:k<(mF l C U W).length,t (mF l C U W)[k]=false) (l.length+C.length) A0 A1 ?_ ?_ ?_ ?_ ?_
 . exact zq
 . exact zq
 . exact⟨A 0 _ _ aF o,fun k E=>absurd E (Al _)⟩
 . rintro i f H1 F E T ⟨hI,aj⟩;have N:i<(l++C).length:=by rw[An];exact F
   obtain⟨p5,p3⟩:=VK i N;have M:=gC i (Bg N L)
   have ar:∀k,k<i+1->t ((mF l C U W)[i]'(Bg N L))=false->∀h:k<(mF l C U W).length,t (mF l C U W)[k]=false:=fun k E O h=>by
    by_cases e:k=i
    . subst e;exact O
    exact aj k A0 h
   have Of:t ((mF l C U W)[i]'(Bg N L))=true->(mF l C U W).any t=true:=fun h=>Cj.2 ⟨_,Ac _,h⟩;rw[p i N] at M ar Of;have Og:i<(l.map (cX La)++C.map (cX Lb)).length:=(by simp only[An,Ah];exact F);generalize PA:(l.map (cX La)++C.map (cX Lb)).getD i []=cs at *;generalize ((l++C)[i]).1=d at *;refine aJ ?_;refine bP ?_;have bl:i<l.length+C.length:=F;simp only[↓zP,zJ,seval,T,E 17 rfl,aD,An,Ah,bl,PA,oL p5];refine bQ ?_;have bc:Over H1 ((H1.alloc (.cells [.int .i64 0,.int .i64 0,.int .i64 0,.int .i64 0,.bE] false)).set H1.next (.cells cs false)):=((Over.refl H1).alloc _).set (Ae _) _;have aO:((H1.alloc (.cells [.int .i64 0,.int .i64 0,.int .i64 0,.int .i64 0,.bE] false)).set H1.next (.cells cs false)).get H1.next=some (.cells cs false):=ZaR;obtain⟨H2,Q,nh,_,_⟩:=M _ (A i _ _ bc hI);generalize (H1.alloc (.cells [.int .i64 0,.int .i64 0,.int .i64 0,.int .i64 0,.bE] false)).set H1.next (.cells cs false)=HA at *;simp only[↓zP,zJ,seval,aO,p5,p3,E 0 rfl];refine IG A1 (by rfl) (by rfl) Q ?_
   cases ee:t d with
   |true=>rw[ee] at nh;refine Ty ?_;refine⟨rfl,_,by simp only[zR,seval];rfl,?_⟩;exact⟨rfl,by rw[if_pos (Of ee)];simpa using nh⟩
   |false=>rw[ee] at nh;refine Ty ?_;exact⟨by simpa using nh,fun k E h=>ar k E ee h⟩
 rintro f H1 E ⟨hI,aj⟩;refine Tx ?_;apply hK;clear hK K;obtain⟨w1,w2⟩:=zb _ _ hI;refine bP ?_;refine Dz ?_;simp only[↓zP,zJ,seval,zD,E 1 rfl,w1];refine gH (ea _) ?_;simp only[↓zP,zJ,seval,zD,E 2 rfl,w2];refine gH (eb _) ?_;simp only[↓zP,zJ,seval,zD];refine fW ?_;simp only[↓zP,zG,seval,aU];refine bQ ?_;have nm:(l++C).length=l.length+C.length:=An;have aq:((l++C).map (·.1)).length=l.length+C.length:=by rw[Ah,nm]
 have ay:mF l C U W=pre ((l++C).map (·.1)) U W U.length 0:=aQb ..
 have bf:∀x∈(l++C).map (·.1),t x=false:=fun x hx=>by
  obtain⟨k,wU,rfl⟩:=Cz hx;have al:k<l.length+C.length:=by rw[<-aq];exact wU
  have :=aj k al A0;rw[p k (by rw[nm];exact al)] at this;rw[Cr];exact this
 generalize c0:(l++C).map (·.1)=D at *;refine bS [] (fun i vs H'=>I (pre D U W i 0).length H'/\∀x∈pre D U W i 0,t x=false) U.length A0 A1 ?_ ?_ ?_ ?_ ?_
 . exact zq
 . exact zq
 . have e:pre D U W 0 0=D:=by simp[Vt,Mw]
   rw[e,aq];exact⟨hI,bf⟩
 . rintro i s H2 F fI P ⟨nh,af⟩;have aN:=cH F;have S:=nU _ (Ac F);refine aJ ?_;simp only[↓zP,zJ,seval,P,fI 33 rfl,fI 7 rfl,aD,aU,F,aN,oL (aT U[i])];refine bS [] (fun j vs H'=>I (pre D U W i j).length H'/\(∀x∈pre D U W i j,t x=false)/\H2.next<H'.next/\H'.get H2.next=some (.cells (cG U[i]) false)) W.length A0 A1 ?_ ?_ ?_ ?_ ?_
   . exact zq
   . exact zq
   . exact⟨A _ _ _ (((Over.refl H2).alloc _).set (Ae _) _) nh,af,by simp,by rw[aA.aH,if_pos rfl]⟩
   . rintro j f3 X Y gA B ⟨ab,ad,HN,g9⟩;have aK:=cH Y;have ag:=nW _ (Ac Y);have J:=aIg (D:=D) F Y;obtain⟨R,hR⟩:=aQd (D:=D) (W:=W) F (show j+1<=W.length from Y);rw[<-ay,J,aEh] at hR;rw[aEh] at J;have bF:=ba _ _ nh;generalize pre D U W i (j+1)=Pn at *;generalize pre D U W i j=Pj at *;generalize U[i]=u at *;generalize W[j]=w at *;have b3:bN (2*(MU*MU)) (aC.aY u w):=iQ S ag;have bD:MU*MU<=2^20*2^20:=Be an an;have b7:∀i,IJ (u.at i):=fun i=>by have :=bN.c S i;unfold IJ;omega
     have b6:∀i,IJ (w.at i):=fun i=>by have :=bN.c ag i;unfold IJ;omega
     have ae:∀i,i<3->bg (fun i=>some (u.at i)) (fun i=>some (w.at i)) i=some ((aC.aY u w).at i):=fun i F=>bj S ag (by
      have :(3*(2^20*2^20):Nat)<2^240:=by decide
      omega) F
     have q:∀i,((aC.aY u w).at i).natAbs<=2*(MU*MU):=fun i=>bN.c b3 i;have br:2*(2^20*2^20)<jG.W^16:=by decide
     have b4:∀i,i<3->dN (cO (bg (fun i=>some (u.at i)) (fun i=>some (w.at i)) i)) (bg (fun i=>some (u.at i)) (fun i=>some (w.at i)) i):=fun i F=>by rw[ae i F];exact .enc (by have :=q i;omega)
     have bk:(⟨(fH (bg (fun i=>some (u.at i)) (fun i=>some (w.at i)) 0)).1,(fH (bg (fun i=>some (u.at i)) (fun i=>some (w.at i)) 1)).1,(fH (bg (fun i=>some (u.at i)) (fun i=>some (w.at i)) 2)).1⟩:aC.V)=aC.aY u w:=by
      have sm:∀z:Int,z.natAbs<=2*(MU*MU)->(fH (some z)).1=z:=fun z hz=>by simp only[fH];rw[if_pos A0]
      rw[ae 0 A1,ae 1 A1,ae 2 A1,sm _ (q 0),sm _ (q 1),sm _ (q 2)];rfl
     have n9:¬(H2.next=X.next):=A0;refine aJ ?_;simp only[↓zP,zJ,seval,B,gA 39 rfl,gA 9 rfl,aD,aU,Y,aK,oL (aT w),oL (aT u),g9,n9];refine fC (aCc b7 b6 _) ?_;refine fC (Tl b4 _) ?_;rw[bk];generalize hc:aC.aY u w=c at *;by_cases nq:c=V0
     . rw[if_pos nq,Bx] at J;have hd:decide (c=V0)=true:=Ag nq;simp only[↓zP,zJ,seval,oL (aT c),LA,hd];rw[J];refine⟨A _ _ _ (((((Over.refl X).alloc _).set (Ae _) _).alloc _).set A2 _) ab,ad,by omega,?_⟩;rw[if_neg A0,if_neg A0,if_neg A0,if_neg A0];exact g9
     have hd:decide (c=V0)=false:=Ab nq;simp only[↓zP,zJ,seval,oL (aT c),LA,hd];generalize G:(((X.alloc _).set _ _).alloc _).set _ _=HX;have ak:Over X HX:=(by subst G;exact((((Over.refl X).alloc _).set (Ae _) _).alloc _).set A0 _);clear G;have bb:=(ak.same H2.next HN).trans g9;have b9:=A _ _ _ ak ab;have bz:=ak.le;rw[if_neg nq] at J hR;have r:Pj.length<(mF l C U W).length:=(by rw[hR];simp);have az:(mF l C U W)[Pj.length]'r=c:=(by simp[hR]);obtain⟨H6,Q,a7,bC,aE⟩:=gC _ r HX b9;rw[az] at Q a7
     have b0:f3 0=.yield id:=by rw[gA 0 rfl];simp only[zB,seval];rw[fI 0 rfl];simp only[zB,seval];rw[E 0 rfl];simp only[zB,seval,fD,Dj]
     refine IG A1 (by simp only[zB,seval];exact b0) ZaX Q ?_
     cases ee:t c with
     |true=>rw[ee] at a7;have Of:(mF l C U W).any t=true:=Cj.2 ⟨c,by rw[<-az];exact Ac r,ee⟩;refine Ty ?_;refine⟨rfl,_,by simp only[zR,seval];rfl,?_⟩;exact⟨rfl,by rw[if_pos Of];simpa using a7⟩
     |false=>
      rw[ee] at a7;refine Ty ?_;rw[J,An];refine⟨by simpa using a7,fun x hx=>?_,by omega,(aE _ A0 A0).trans bb⟩
      rcases Ar.1 hx with hx|hx
      . exact ad x hx
      rw[Bw] at hx;subst hx;exact ee
   rintro f3 X gA ⟨ab,ad,HN,g9⟩;rw[aQc F] at ab ad;exact⟨ab,ad⟩
 rintro s H2 fI ⟨nh,af⟩;rw[<-ay] at nh af
 have Of:(mF l C U W).any t=false:=by rw[Eh];intro x hx;simp[af x hx]
 refine⟨rfl,_,by simp only[zR,seval];rfl,?_⟩;exact⟨rfl,by rw[Of];exact nh⟩
def oJ(a b:List aC.V)(n:aC.V):Bool:=decide (wV n (aC.dot n (a.getD 0 V0)) a<=wX n (aC.dot n (b.getD 0 V0)) b)||decide (wV n (aC.dot n (b.getD 0 V0)) b<=wX n (aC.dot n (a.getD 0 V0)) a)
theorem Ls{n:aC.V}{X:Nat}:∀{l:List aC.V} {m:Int},m.natAbs<=X->(∀v∈l,(aC.dot n v).natAbs<=X)->(wX n m l).natAbs<=X
 |[],_,h,_=>h
 |v::l,m,h,hl=>by have O:=hl v Az;have :=Ls (n:=n) (l:=l) (m:=if aC.dot n v<m then aC.dot n v else m) ZaN (fun w L=>hl w (As _ L));exact this
theorem LX{n:aC.V}{X:Nat}:∀{l:List aC.V} {m:Int},m.natAbs<=X->(∀v∈l,(aC.dot n v).natAbs<=X)->(wV n m l).natAbs<=X
 |[],_,h,_=>h
 |v::l,m,h,hl=>by have O:=hl v Az;have :=LX (n:=n) (l:=l) (m:=if aC.dot n v>m then aC.dot n v else m) ZaN (fun w L=>hl w (As _ L));exact this
theorem Wh(an:Nat.blt ta 2=true)(al:Nat.blt tb 2=true){a b:List aC.V}{M B:Nat}(ha:∀v∈a,bN M v)(X:∀v∈b,bN M v)(hM:M<=2^18)(b1:a.length<2^30)(aO:b.length<2^30)(T:a≠[])(SS:b≠[])
 {l C:List (aC.V×Int)} {La Lb:aC.V×Int->List Nat} {U W:List aC.V} {MU:Nat} (b4:MU<=2^20)
 (fa:∀H,Sg 182 [.agg [.bJ ta 3 (bR a)]] H (.ret (.bJ (H.next+2) 5 (l.map (cX La)))) (H.alloc .tok))
 (fb:∀H,Sg 182 [.agg [.bJ tb 3 (bR b)]] H (.ret (.bJ (H.next+2) 5 (C.map (cX Lb)))) (H.alloc .tok))
 (ea:∀H,Sg 183 [.agg [.bJ ta 3 (bR a)]] H (.ret (.bJ 0 3 (bR U))) H)
 (eb:∀H,Sg 183 [.agg [.bJ tb 3 (bR b)]] H (.ret (.bJ 0 3 (bR W))) H)
 (nU:∀v∈U,bN MU v) (nW:∀v∈W,bN MU v) (aK:l.length<=64) (aF:C.length<=64) (b3:C≠[]) (lU:U.length<=2^20) (lW:W.length<=2^20)
 (Xs:∀n∈mF l C U W,bN B n) (hB:B<=2^62) (H:aA):
 Sg 31 [.agg [.bJ ta 3 (bR a)],.agg [.bJ tb 3 (bR b)]] H (.ret (.bool ((mF l C U W).any (oJ a b)))) H:=by
 suffices h:∃out H',out=.ret (.bool ((mF l C U W).any (oJ a b)))/\Sg 31 [.agg [.bJ ta 3 (bR a)],.agg [.bJ tb 3 (bR b)]] ⟨0,.nil⟩ out H' by obtain⟨_,H',rfl,u⟩:=h;exact Sound.frame eE (by simp only[sf,cT an,cT al]) u (tk:=none) (fun k E=>by cases E) (n:=0) H (sJ rfl)
 obtain⟨p,ar,ae⟩:=Ek T;obtain⟨b0,br,ad⟩:=Ek SS;refine AZ fit bQd (Ai rfl) ?_;unfold W31;dsimp only;refine bP ?_;refine Ty ?_;refine bQ ?_;refine aM fun K hK=>?_;refine bP ?_;refine Ty ?_;refine fC (SH (ta:=ta) (tb:=tb) a b _) ?_;simp only[↓zP,seval,zI];refine bQ ?_
 refine aTz (by
  repeat (first|exact(AN (Ai rfl)).1|refine oO.kI ?_ A1 _)) (fun f HX yd N a7=>?_)
 have f2:=Kf (i:=2) N;have f3:=Kf (i:=3) N;have m:=Kf (i:=4) N;have b6:=Kf (i:=12) N;have xn:HX.next=5:=by subst a7;simp only[zI,seval]
 have x0:HX.get 0=some (.cells [.bJ ta 3 (bR a)] false):=by subst a7;simp only[zI,seval]
 have x1:HX.get 1=some (.cells [.bJ tb 3 (bR b)] false):=by subst a7;simp only[zI,seval]
 have x2:HX.get 2=some (.cells [.bool false] false):=by subst a7;simp only[zI,seval]
 have x3:HX.get 3=some (.cells [.bJ ta 3 (bR a)] false):=by subst a7;simp only[zI,seval]
 have x4:HX.get 4=some (.cells [.bJ tb 3 (bR b)] false):=by subst a7;simp only[zI,seval]
 clear N a7;refine aJ ?_;refine IF (by rw[jM];exact b6) ?_;simp only[xn,seval];generalize q:Mm.mk [13] _ _=key
 let I:Nat->aA->Prop:=fun _ H'=>7<=H'.next/\H'.get 0=some (.cells [.bJ ta 3 (bR a)] false)/\H'.get 1=some (.cells [.bJ tb 3 (bR b)] false)/\H'.get 2=some (.cells [.bool false] false)/\H'.get 3=some (.cells [.bJ ta 3 (bR a)] false)/\H'.get 4=some (.cells [.bJ tb 3 (bR b)] false)/\H'.get 5=some .Nu/\H'.get 6=some (.loop key (LF 36 f) .ready)
 let d:aA->Prop:=fun H'=>H'.get 2=some (.cells [.bool true] false)/\7<=H'.next/\H'.get 5=some .Nu/\∃k s,H'.get 6=some (.loop k s (.done .ret))
 have CL:∀i H1 w,Over H1 w->I i H1->I i w:=fun i H1 w S ⟨w1,w2,G,t,w5,w6,c,w8⟩=>⟨Ay w1 S.le,(S.same _ A0).trans w2,(S.same _ A0).trans G,(S.same _ A0).trans t,(S.same _ A0).trans w5,(S.same _ A0).trans w6,(S.same _ A0).trans c,(S.same _ A0).trans w8⟩
 have ay:∀H1 w,Over H1 w->d H1->d w:=fun H1 w S ⟨w1,w2,G,k,s,t⟩=>⟨(S.same _ A0).trans w1,Ay w2 S.le,(S.same _ A0).trans G,k,s,(S.same _ A0).trans t⟩
 have yn:((HX.alloc .Nu).alloc (.loop key (LF 36 f) .ready)).next=7:=by simp[xn]
 have o:I 0 ((HX.alloc .Nu).alloc (.loop key (LF 36 f) .ready)):=by refine⟨by rw[yn];decide,?_,?_,?_,?_,?_,?_,?_⟩<;>simp[aA.aI, *]
 have gC:∀k (E:k<(mF l C U W).length) H1,I k H1->∃H',tY Tryz.prog gv 6 [.agg (cG (mF l C U W)[k])] H1 (.ret (.bool (!oJ a b (mF l C U W)[k]))) H'/\(if oJ a b (mF l C U W)[k] then d H' else I (k+1) H')/\H1.next<=H'.next/\∀j,((HX.alloc .Nu).alloc (.loop key (LF 36 f) .ready)).next<=j->j<H1.next->H'.get j=H1.get j:=by
  rintro k E H1 ⟨w1,w2,G,t,w5,w6,c,w8⟩;have A:=Xs _ (Ac E);rw[yn];generalize (mF l C U W)[k]=n at *
  suffices h:∃out H',(out=.ret (.bool (!oJ a b n))/\(if oJ a b n then d H' else I (k+1) H')/\H1.next<=H'.next/\∀j,7<=j->j<H1.next->H'.get j=H1.get j)/\tY Tryz.prog gv 6 [.agg (cG n)] H1 out H' by obtain⟨_,H',⟨rfl,O,Z,h3⟩,u⟩:=h;exact⟨H',u,O,Z,h3⟩
  refine Zp fit yd w8 (by rw[<-q];rfl) (by rw[<-q];rfl) (by rw[<-q];rfl) ?_
  have az:FC Tryz.prog gv 36 key.Nr (uY 36 f (key.ps.zip [.agg (cG n)])) [] H1 (fun e f1 qU aE=>e=.normal/\f1=kI (kI f 13 (.agg (cG n))) 5 (.ref H1.next 0)/\qU=[]/\aE=(H1.alloc (.cells [.int .i64 0,.int .i64 0,.int .i64 0] false)).set H1.next (.cells (cG n) false)):=by subst q;dsimp only[List.zip,List.zipWith,uY,gK];simp only[↓zP,zJ,seval,oL (aT n)]
  refine lE (fun e f1 qU aE h=>?_) az;obtain⟨rfl,rfl,rfl,rfl⟩:=h;have ab:Over H1 ((H1.alloc (.cells [.int .i64 0,.int .i64 0,.int .i64 0] false)).set H1.next (.cells (cG n) false)):=((Over.refl H1).alloc _).set (Ae _) _;have ga:((H1.alloc (.cells [.int .i64 0,.int .i64 0,.int .i64 0] false)).set H1.next (.cells (cG n) false)).get H1.next=some (.cells (cG n) false):=by rw[aA.aH,if_pos rfl]
  have aq:((H1.alloc (.cells [.int .i64 0,.int .i64 0,.int .i64 0] false)).set H1.next (.cells (cG n) false)).next=H1.next+1:=by simp
  refine⟨rfl,key,LF 36 f,(ab.same 6 A0).trans w8,?_⟩;generalize Q:aA.set _ 6 _=D;have z0:D.get 0=some (.cells [.bJ ta 3 (bR a)] false):=by rw[<-Q,aA.aH,if_neg A1];exact(ab.same 0 A0).trans w2
  have z1:D.get 1=some (.cells [.bJ tb 3 (bR b)] false):=by rw[<-Q,aA.aH,if_neg A1];exact(ab.same 1 A0).trans G
  have zr:D.get H1.next=some (.cells (cG n) false):=by rw[<-Q,aA.aH,if_neg A0];exact ga
  have zn:D.next=H1.next+1:=by rw[<-Q,aA.aZ];exact aq
  have z6:D.get 6=some (.loop key (LF 36 f) .busy):=by rw[<-Q,aA.aH,if_pos rfl]
  have zo:∀j,j≠6->j<H1.next->D.get j=H1.get j:=fun j O Z=>by rw[<-Q,aA.aH,if_neg O];exact ab.same j Z
  clear Q az ab ga aq;subst q;dsimp only;refine aJ ?_;simp only[↓zP,zJ,seval,f2,z0,zr,oL (aT n)];have sa:=fun H=>rz (tag:=ta) an ha b1 hM A hB ae H;have sb:=fun H=>rz (tag:=tb) al X aO hM A hB ad H;have R:∀z,(cI z).length=18:=fun z=>by simp[cI,cE,cK]
  have F:(AV.bool false::AV.bool false::wC zs).length=18:=by simp[cE];rfl
  have b9:B*M<=2^62*2^18:=Be hB hM
  have b7:3*(B*M)<jG.W^16:=by have :3*(2^62*2^18)<jG.W^16:=A1;omega
  have da:∀v∈a,(aC.dot n v).natAbs<=3*(B*M):=fun v J=>nV A (ha v J);have db:∀v∈b,(aC.dot n v).natAbs<=3*(B*M):=fun v J=>nV A (X v J);have ag:=da p (by rw[ae];simp);have af:=db b0 (by rw[ad];simp)
  have eh:oJ a b n=(decide (wV n (aC.dot n p) a<=wX n (aC.dot n b0) b)||decide (wV n (aC.dot n b0) b<=wX n (aC.dot n p) a)):=by simp only[oJ,ae,ad,Dj]
  rw[eh];have aN:dN (cI (wX n (aC.dot n p) a)) (some (wX n (aC.dot n p) a)):=.enc (by have :=Ls ag da;omega);have xJ:dN (cI (wV n (aC.dot n p) a)) (some (wV n (aC.dot n p) a)):=.enc (by have :=LX ag da;omega);have aj:dN (cI (wX n (aC.dot n b0) b)) (some (wX n (aC.dot n b0) b)):=.enc (by have :=Ls af db;omega);have r:dN (cI (wV n (aC.dot n b0) b)) (some (wV n (aC.dot n b0) b)):=.enc (by have :=LX af db;omega);clear eh CL ay o;generalize wX n (aC.dot n p) a=P at *;generalize wV n (aC.dot n p) a=p2 at *;generalize wX n (aC.dot n b0) b=q1 at *;generalize wV n (aC.dot n b0) b=q2 at *;have g:¬(H1.next=0):=by omega
  have n1:¬(H1.next=1):=by omega
  have n2:¬(2=H1.next):=by omega
  have z2:D.get 2=some (.cells [.bool false] false):=(zo 2 A1 A0).trans t;refine fC (sa _) ?_;simp only[↓zP,zJ,seval,Bm,Nat.left_eq_add,Hu,R,F,oL F,zn,z1,zr,f3,oL (aT n),g];refine fC (sb _) ?_
  have CT:∀x y:Int,decide (lO (some x) (some y)<=0)=decide (x<=y):=fun x y=>by rw[Aw];simp only[lO];split<;>(try split)<;>omega
  by_cases c1:p2<=q1
  . have d1:decide (lO (some p2) (some q1)<=0)=true:=by rw[CT];exact Ag c1
    simp only[↓zP,zJ,seval,Bm,Hu,R,F,oL (R p2),oL (R q1),oL F,zn];refine fC (DE xJ aj _) ?_;simp only[↓zP,zJ,seval,Bm,d1,m,g,n1,zn,z2];have a6:(decide (p2<=q1)||decide (q2<=P))=true:=(by simp[c1]);exact Zad
  have d1:decide (lO (some p2) (some q1)<=0)=false:=by rw[CT];exact Ab c1
  simp only[↓zP,zJ,seval,Bm,Hu,R,F,oL (R p2),oL (R q1),oL F,zn];refine fC (DE xJ aj _) ?_;simp only[↓zP,zJ,seval,Bm,Hu,d1,R,zn,oL (R P),oL (R q2)];refine fC (DE r aN _) ?_;by_cases c2:q2<=P
  . have d2:decide (lO (some q2) (some P)<=0)=true:=by rw[CT];exact Ag c2
    simp only[↓zP,zJ,seval,Bm,d2,m,g,n1,zn,z2];have a6:(decide (p2<=q1)||decide (q2<=P))=true:=(by simp[c2]);exact Zad
  have d2:decide (lO (some q2) (some P)<=0)=false:=by rw[CT];exact Ab c2
  simp only[↓zP,zG,seval,d2];generalize hZ:aA.set _ (H1.next+4) _=HZ;have hz:Over D HZ:=by subst hZ;exact(((((((((Over.refl D).alloc _).alloc _).set A0 _).set A0 _).alloc _).alloc _).set A0 _).set A0 _)
  clear hZ;have ak:=hz.le;have a6:(decide (p2<=q1)||decide (q2<=P))=false:=by simp[c1,c2]
  refine⟨rfl,_,_,(hz.same 6 A0).trans z6,by rw[a6];rfl,?_,by simp only[aA.aZ];omega,fun j O Z=>?_⟩
  . rw[a6,if_neg A1]
    have E:∀(ob:eG) (j:Nat),j<6->(HZ.set 6 ob).get j=H1.get j:=fun ob j Y=>by rw[aA.aH,if_neg A0];exact(hz.same j A0).trans (zo j A0 A0)
    exact⟨by simp only[aA.aZ];omega,(E _ 0 A1).trans w2,(E _ 1 A1).trans G,(E _ 2 A1).trans t,(E _ 3 A1).trans w5,(E _ 4 A1).trans w6,(E _ 5 A1).trans c,by rw[aA.aH,if_pos rfl]⟩
  by_cases j6:j=6
  . omega
  rw[aA.aH,if_neg j6];exact(hz.same j A0).trans (zo j j6 Z)
 obtain⟨He,QO,u⟩:=Oe (ta:=ta) (tb:=tb) b4 fa fb ea eb nU nW aK aF b3 lU lW (id:=6) (r1:=3) (r2:=4) (o1:=false) (o2:=false) I d (oJ a b) CL ay gC (fun k H1 h=>by rw[yn];exact h.1) (by rw[yn];decide) (by rw[yn];decide) o.2.2.2.2.1 o.2.2.2.2.2.1 (fun k H' h=>⟨h.2.2.2.2.1,h.2.2.2.2.2.1⟩) o
 cases Of:(mF l C U W).any (oJ a b) with
 |true=>
  rw[Of,if_pos rfl] at QO;obtain⟨w1,w2,G,k,s,t⟩:=QO;refine⟨_,He,_,_,_,u,t,fun Hf N=>?_⟩;obtain⟨e1,e2⟩:=N;have L:Hf.get 2=some (.cells [.bool true] false):=by rw[e2,if_neg A1];exact w1
  have b5:Hf.get 5=some .Nu:=by rw[e2,if_neg A1];exact G
  refine⟨b5,[.bool true],?_,rfl⟩;simp only[↓zP,zR,seval,m,L]
 |false=>
  rw[Of,if_neg A1] at QO;obtain⟨w1,w2,G,t,w5,w6,c,w8⟩:=QO;refine⟨_,He,_,_,_,u,w8,fun Hf N=>?_⟩;obtain⟨e1,e2⟩:=N;have L:Hf.get 2=some (.cells [.bool false] false):=by rw[e2,if_neg A1];exact t
  have b5:Hf.get 5=some .Nu:=by rw[e2,if_neg A1];exact c
  show K f [.mark 5] Hf;apply hK;simp only[↓zP,zJ,seval,m,L];refine⟨by rw[aA.aH,if_neg A1];exact b5,[.bool false],?_,by rw[Of];rfl⟩;simp only[↓zP,zR,seval,m]
end Go.Proofs.YtogfcjbgeebfkaaGreatDoor
namespace Go.Proofs.YtogfcjbgeebfkaaGreatDoor
open Go Go.Av Go.aC
theorem RB(l:List aC.V):∃C,Ord l C:=by obtain⟨s,O,Z⟩:=yD (fun a b:aC.V=>¬iO b a) (fun {a b c} h h'=>by grind[iO]) (fun a b=>by grind[iO]) l;exact⟨dd s s.length,bu Z _ (Ae _),fun v=>by rw[Pz s v _ (Ae _),Aq];grind⟩
noncomputable def Sl (l:List aC.V):List aC.V:=Classical.choose (RB l)
theorem AM(l:List aC.V):Ord l (Sl l):=Kk (RB l)
noncomputable def dY (C:List aC.V):List (aC.V×Int):=Classical.choose (oW.exists (fun i=>C.getD i V0) C.length)
theorem lT(C:List aC.V):oW (fun i=>C.getD i V0) C.length (dY C):=Kk (oW.exists (fun i=>C.getD i V0) C.length)
open Classical in
noncomputable def fU (C:List aC.V) (q:aC.V×Int):List Nat:=if h:∃L,Poly (fun i=>C.getD i V0) C.length q.1 q.2 L then Classical.choose h else []
variable{C:List aC.V}
theorem BA(h:C.Pairwise iO):KG (fun i=>C.getD i V0) C.length:=fun i j s Y=>by
 have O:C.getD i V0=C[i]:=by grind
 have Z:C.getD j V0=C[j]:=by grind
 simp only[O,Z];exact Fy.1 h i j (Bt s Y) Y s
theorem jO(h:C.Pairwise iO):vJ C (dY C) (fU C) where
 fl:=lT C
 po q hq:=by
  have L:=((lT C).mem q).1 hq;have a:=Poly.exists (BA h) L.Ru;unfold fU
  grind
noncomputable def mS (l:List aC.V):Int:=Od l (Sl l) (dY (Sl l)) (fU (Sl l))
variable{l:List aC.V}
theorem Lz(h:l.Pairwise iO):Sl l=l:=Ord.uniq (AM l) ⟨h,fun v=>Iff.rfl⟩
theorem nB(h:mS l=0):l.Pairwise iO/\Sl l=l/\dY l≠[]/\(dY l).length<=64/\l.length<=64/\l≠[]/\∀v∈l,bN (2^18) v:=by
 unfold mS Od at h;split at h
 . cases h
 rename_i O;have Z:gZ (Sl l) (dY (Sl l)) (fU (Sl l))=l:=Cq fun c=>O ⟨h,c⟩;obtain⟨a1,Q,s⟩:=VX h;have M:=(AM l).Ra
 have D:l.Pairwise iO:=by rw[<-Z];unfold gZ;rw[Eo];refine Gd (R:=fun a b=>a<b) ?_ (List.Pairwise.filter _ Ib);intro a b I X j;exact BA M a b j (by simpa using(Ft.1 X).1)
 have B:=Lz D;have z:=QU (jO M) a1;rw[Z] at z;rw[B] at a1;refine⟨D,B,a1,?_,s,z,?_⟩
 . unfold iW at h;rw[B] at h;split at h
   . cases h
   split at h
   . cases h
   split at h
   . cases h
   split at h
   . cases h
   omega
 unfold iW at h;split at h
 . cases h
 split at h
 . cases h
 rename_i X;intro v J;have Y:l.all ey=true:=by simpa using X
 exact Lh.1 (Bh.1 Y v J)
theorem KX:mS []=120:=by
 have h:Sl []=[]:=Lz .nil;unfold mS Od;rw[h]
 have u:dY []=[]:=by
  cases N:dY [] with
  |nil=>rfl
  |cons q r=>
   have :=((lT []).mem q).1 (by grind);obtain⟨k,E,_⟩:=this.lt
   grind
 rw[u];rfl
def IsE(l:List aC.V)(v:aC.V):Prop:=∃q:aC.V×Int,oM (fun i=>l.getD i V0) l.length q.1 q.2/\∃a b,Sd q.1 (fun i=>l.getD i V0) (iE (fun i=>l.getD i V0) l.length q.1 q.2) a b/\a∈iE (fun i=>l.getD i V0) l.length q.1 q.2/\a<b/\v=aC.sub (l.getD b V0) (l.getD a V0)
def IsD(a b:List aC.V)(n:aC.V):Prop:=(∃d,oM (fun i=>a.getD i V0) a.length n d)\/(∃d,oM (fun i=>b.getD i V0) b.length n d)\/∃u w,IsE a u/\IsE b w/\n=aC.aY u w/\n≠V0
open Classical in
noncomputable def lP (a b:List aC.V):Bool:=decide (∃n,IsD a b n/\oJ a b n=true)
theorem nS{a b:List aC.V}:lP a b=true↔∃n,IsD a b n/\oJ a b n=true:=by simp[lP]
end Go.Proofs.YtogfcjbgeebfkaaGreatDoor
