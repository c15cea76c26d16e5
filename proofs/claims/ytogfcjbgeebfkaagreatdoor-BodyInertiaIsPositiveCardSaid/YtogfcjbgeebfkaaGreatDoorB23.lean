/-
  Part of the proof of statement 13
-/
import Derived.Test.YtogfcjbgeebfkaaGreatDoorB21
import Derived.Test.YtogfcjbgeebfkaaGreatDoorB07
import Derived.Test.YtogfcjbgeebfkaaGreatDoorB20
import Derived.Test.YtogfcjbgeebfkaaGreatDoorB22
import Derived.Test.YtogfcjbgeebfkaaGreatDoorB06
import Derived.Test.YtogfcjbgeebfkaaGreatDoorB17
import Derived.Test.YtogfcjbgeebfkaaGreatDoorB18
import Derived.Test.YtogfcjbgeebfkaaGreatDoorB19
set_option linter.unusedVariables false
set_option maxRecDepth 100000
set_option maxHeartbeats 16000000
set_option linter.unusedSimpArgs false
namespace Go.Proofs.YtogfcjbgeebfkaaGreatDoor
open Go Go.Av Go.iW
attribute [local congr] aZ aQ aR aL bD aU aS aG bE
attribute [local irreducible] FC bS eE
def aDs(x y:Int):Int×Int:=if(!decide (x.tmod y=0)&&(decide (x.tmod y<0) != decide (y<0)))=true then(x.tdiv y -1,x.tmod y+y) else(x.tdiv y,x.tmod y)
theorem tdiv_le(x y:Int):(x.tdiv y).natAbs<=x.natAbs:=by rw[Int.natAbs_tdiv];exact Fq _ _
theorem rn(x:Int){y:Int}(h:y≠0):(x.tmod y).natAbs<y.natAbs:=by rw[Int.natAbs_tmod];exact Bz _ A0
variable{a b:List AV}{x y:Int}
theorem Ro(I:eJ a (some x))(X:eJ b (some y))(m: -2^63<x)(B:x<2^63)(h: -2^63<y)(a7:y<2^63)(Q:y≠0)(H:aB):
 Sg 196 [.agg a,.agg b] H (.ret (.iV [.agg (cI (aDs x y).1),.agg (cI (aDs x y).2)])) H:=by
 refine Sp aFp Zan Zaj ?_ H;unfold aCi;dsimp only;have d:=qR I X;have M:=tR X;have O:=yJ I;have Z:=yJ X;have T:fU (some x)=(x,true):=by simp only[fU];rw[if_pos A0]
 have o:fU (some y)=(y,true):=by simp only[fU];rw[if_pos A0]
 rw[T] at O;rw[o] at Z
 have ab:(iI (some y)==0)=false:=by simp only[iI];split<;>(try split)<;>first|rfl|omega
 have D:=tdiv_le x y;have V:=rn x Q;have R:IntKind.i64.wrap (x.tdiv y)=x.tdiv y:=wrap_i64 A0 A0;have wr:IntKind.i64.wrap (x.tmod y)=x.tmod y:=wrap_i64 A0 A0;have G:=I.len;have j:=X.len;have nx:(x != -9223372036854775808)=true:=Ge.2 A0;have ny:(y != -9223372036854775808)=true:=Ge.2 A0;refine bP ?_;refine Ty ?_;refine bQ ?_;have F:(AV.bool false::AV.bool false::wC zs).length=18:=by simp[cK];rfl
 have k:∀z,(cI z).length=18:=fun z=>cL z;generalize hX:((((aB.mk 0 .nil).alloc _).alloc _).alloc _).alloc _=c;have g0:=Kv (i:=0) hX;have g:=Kv (i:=1) hX;have e:=Kv (i:=2) hX;have U:=Kv (i:=3) hX;clear hX;refine bP ?_;have :=oL G;have :=oL j;have := @Dx;refine Wz ?_;refine bQ ?_;refine aP fun K hK=>?_;refine bP ?_;refine Wy ?_;refine bQ ?_;clear hK;refine cC fun f N=>?_;have S:=Kf (i:=3) N;have l:=Kf (i:=4) N;have s:=Kf (i:=5) N;have L:=Kf (i:=6) N;have J:=Kf (i:=7) N;clear N;refine bP ?_;refine Wz ?_;refine bQ ?_;simp only[↓zP,zJ,seval,S,g,oL j];refine eI (Z _) ?_;simp only[↓zP,zJ,seval,ny];refine cC fun u N=>?_;have p:=Ks N l;have C:=Ks N s;have w:=Ks N L;have t:=Kf (i:=8) N;clear N S l s L J;refine Dz ?_
 have q:aDs x y=if(!decide (x.tmod y=0)&&(decide (x.tmod y<0) != decide (y<0)))=true then(x.tdiv y -1,x.tmod y+y) else(x.tdiv y,x.tmod y):=rfl
 have oq:=uP (z:=x.tdiv y) A0 A0;have or:=uP (z:=x.tmod y) A0 A0;have a6:∀H,Sg 51 [.int .i64 (x.tdiv y -1)] H (.ret (.agg (cI (x.tdiv y -1)))) H:=uP A0 A0;have Y:IntKind.i64.wrap (x.tdiv y -1)=x.tdiv y -1:=wrap_i64 A0 A0;by_cases v:x.tmod y=0
 . have A:(x.tmod y != 0)=false:=by simp[v]
   rw[Af v] at q;simp only[↓zP,zJ,seval,zD,w,t,Q,R,A];refine eI (oq _) ?_;refine Tz ?_;refine eI (or _) ?_;exact Zaf
 have A:(x.tmod y != 0)=true:=Ge.2 v;rw[Ac v] at q;by_cases E:x.tmod y<0
 . have n:=Af E;rw[n] at q;by_cases cB:y<0
   . have r:=Af cB;rw[r] at q;simp only[↓zP,zJ,seval,zD,w,t,Q,R,A,n,r];refine eI (oq _) ?_;refine Tz ?_;refine eI (or _) ?_;exact Zaf
   have r:=Ac cB;rw[r] at q;have W:∀H,Sg 51 [.int .i64 (x.tmod y+y)] H (.ret (.agg (cI (x.tmod y+y)))) H:=uP A0 A0;have P:IntKind.i64.wrap (x.tmod y+y)=x.tmod y+y:=wrap_i64 A0 A0;simp only[↓zP,zJ,seval,zD,w,t,Q,R,A,n,r,Y,P];refine eI (a6 _) ?_;refine Tz ?_;refine eI (W _) ?_;exact Zaf
 have n:=Ac E;rw[n] at q;by_cases cB:y<0
 . have r:=Af cB;rw[r] at q;have W:∀H,Sg 51 [.int .i64 (x.tmod y+y)] H (.ret (.agg (cI (x.tmod y+y)))) H:=uP A0 A0;have P:IntKind.i64.wrap (x.tmod y+y)=x.tmod y+y:=wrap_i64 A0 A0;simp only[↓zP,zJ,seval,zD,w,t,Q,R,A,n,r,Y,P];refine eI (a6 _) ?_;refine Tz ?_;refine eI (W _) ?_;exact Zaf
 have r:=Ac cB;rw[r] at q;simp only[↓zP,zJ,seval,zD,w,t,Q,R,A,n,r];refine eI (oq _) ?_;refine Tz ?_;refine eI (or _) ?_;exact Zaf
theorem XC{q r:Int}(Q:y≠0)(h:r+y*q=x)(O:0<y->0<=r/\r<y)(Z:y<0->y<r/\r<=0):x.fdiv y=q/\x.fmod y=r:=by
 rcases Jb Q with A|hp
 . exact(Int.fdiv_fmod_unique' A).2 ⟨h,(Z A).1,(Z A).2⟩
 exact(Int.fdiv_fmod_unique hp).2 ⟨h,(O hp).1,(O hp).2⟩
theorem aMk(Q:y≠0):aDs x y=(x.fdiv y,x.fmod y):=by
 have e:=Int.tmod_add_mul_tdiv x y;have l:=rn x Q;have T:y*(x.tdiv y -1)=y*x.tdiv y -y:=by grind
 obtain⟨q,D⟩:∃q,x.tdiv y=q:=⟨_,rfl⟩;obtain⟨r,V⟩:∃r,x.tmod y=r:=⟨_,rfl⟩;unfold aDs;rw[D] at e T ⊢;rw[V] at e l ⊢
 have key:∀d n,n+y*d=x->(0<y->0<=n/\n<y)->(y<0->y<n/\n<=0)->(d,n)=(x.fdiv y,x.fmod y):=fun d n a b c=>by
  obtain⟨O,Z⟩:=XC Q a b c
  grind
 grind
theorem XB(Q:y≠0):
 x.fdiv y=(if x.natAbs%y.natAbs≠0/\decide (x<0)≠decide (y<0) then sg (decide (x<0) != decide (y<0)) (x.natAbs / y.natAbs) -1 else sg (decide (x<0) != decide (y<0)) (x.natAbs / y.natAbs))/\
 x.fmod y=sg (decide (y<0)) (if x.natAbs%y.natAbs≠0/\decide (x<0)≠decide (y<0) then y.natAbs -x.natAbs%y.natAbs else x.natAbs%y.natAbs):=by
 have e:=Jv x.natAbs y.natAbs;have l:=Bz x.natAbs (show 0<y.natAbs by omega);generalize x.natAbs / y.natAbs=q at *;generalize x.natAbs%y.natAbs=r at *;have o:(r:Int)+(y.natAbs:Int)*(q:Int)=(x.natAbs:Int):=by omega
 refine XC Q ?_ ?_ ?_
 all_goals grind[sg]
def rO:Option Int->Option Int->Option Int×Option Int
 |some x,some y=>if y=0 then(none,none) else(some (x.fdiv y),some (x.fmod y))
 |_,_=>(none,none)
theorem uV(Q:y≠0):(x.fdiv y).natAbs<=x.natAbs/\(x.fmod y).natAbs<y.natAbs:=by
 obtain⟨O,Z⟩:=XB (x:=x) Q;have l:=Bz x.natAbs (show 0<y.natAbs by omega);have e:=Jv x.natAbs y.natAbs;have m:x.natAbs / y.natAbs<=y.natAbs*(x.natAbs / y.natAbs):=Gs _ A0
 grind[jU,sg]
variable{x y:Option Int}{v:List AV}
theorem eJ.aMl(h:eJ v x):eJ (cO (rO x y).1) (rO x y).1:=by
 cases x with
 |none=>exact .bad
 |some x=>cases y with
  |none=>exact .bad
  |some y=>
   simp only[rO];split
   . exact .bad
   rename_i Q;exact .enc (Bv (uV Q).1 h.fit)
theorem eJ.bDx(h:eJ v y):eJ (cO (rO x y).2) (rO x y).2:=by
 cases x with
 |none=>exact .bad
 |some x=>cases y with
  |none=>exact .bad
  |some y=>
   simp only[rO];split
   . exact .bad
   rename_i Q;exact .enc (Cx (uV Q).2 h.fit)
theorem DA(I:eJ a x)(X:eJ b y)(h:(x.isSome&&y.isSome)=false\/y=some 0)(H:aB):
 Sg 196 [.agg a,.agg b] H (.ret (.iV [.agg xH,.agg xH])) H:=by
 refine So aFp Zan ?_ H;unfold aCi;dsimp only;have d:=qR I X;have M:=tR X;have G:=I.len;have j:=X.len;have k:=oL (show xH.length=18 from mG none);refine bP ?_;refine Ty ?_;refine bQ ?_;have F:(AV.bool false::AV.bool false::wC zs).length=18:=by simp[cK];rfl
 generalize hX:((((aB.mk 0 .nil).alloc _).alloc _).alloc _).alloc _=f;have g0:=Kv (i:=0) hX;have g:=Kv (i:=1) hX;have e:=Kv (i:=2) hX;have U:=Kv (i:=3) hX;clear hX;have w:∀b A B,gM aC b A B=B:=fun _ _ _=>rfl;refine aP fun K hK=>?_;have :=oL G;have :=oL j;refine Wy ?_;generalize R:(x.isSome&&y.isSome)=c at *;cases c
 . have :=tD;have :=oL F;refine Wy ?_;exact Zba
 obtain rfl:y=some 0:=by
  rcases h with h|h
  . cases h
  exact h
 simp only[↓zP,zJ,seval,g,oL j];refine eI (M _) ?_;simp only[↓zP,zG,seval,show(iI (some 0)==0)=true from rfl];refine eI (tD _) ?_;refine eI (tD _) ?_;simp only[↓zP,zJ,seval,e,U,k,F,oL F];exact Zba
theorem Ug{x y:Int}(C:x.natAbs<W^16)(c:y.natAbs<W^16)(Q:y≠0)(hl:¬(-2^63<x/\x<2^63/\-2^63<y/\y<2^63))(H:aB):
 Sg 196 [.agg (cI x),.agg (cI y)] H (.ret (.iV [.agg (cI (x.fdiv y)),.agg (cI (x.fmod y))])) H:=by
 refine Sp aFp Zaj Zaj ?_ H;unfold aCi;dsimp only;have d:=qR (.enc C) (.enc c);have M:=tR (.enc c);have O:=yJ (.enc C);have h2:=yJ (.enc c);have G:=cL x;have j:=cL y
 have w:(iI (some y)==0)=false:=by simp only[iI];split<;>(try split)<;>first|rfl|omega
 have lx:=iL (.aV x.natAbs);have ly:=iL (.aV y.natAbs);have X:(cI x).drop 2=wC (aV 16 x.natAbs):=rfl;have dy:(cI y).drop 2=wC (aV 16 y.natAbs):=rfl;have n0:(cI x).getD 1 aC=.bool (decide (x<0)):=rfl;have n1:(cI y).getD 1 aC=.bool (decide (y<0)):=rfl;have k:∀z,(cI z).length=18:=fun z=>cL z;have az:∀b A B,gM aC b A B=B:=fun _ _ _=>rfl;have D:=Nv C c (show 0<y.natAbs by omega);have hW:W=4294967296:=rfl;obtain⟨a7,ab⟩:=XB (x:=x) Q;have ak:x.natAbs / y.natAbs<=x.natAbs:=Fq _ _;have VA:x.natAbs%y.natAbs<y.natAbs:=Bz _ A0;have ay:=(uV (x:=x) Q).1;generalize hQ:x.natAbs / y.natAbs=q at *;generalize hR:x.natAbs%y.natAbs=r at *;have Z:=iL (.aV q);have E:=iL (.aV r);have ae:decide (aV 16 r=zs)=decide (r=0):=by rw[Bj];exact wS A0
 refine bP ?_;refine Ty ?_;refine bQ ?_;have F:(AV.bool false::AV.bool false::wC zs).length=18:=by simp[cK];rfl
 generalize hX:((((aB.mk 0 .nil).alloc _).alloc _).alloc _).alloc _=HA;have g0:=Kv (i:=0) hX;have g:=Kv (i:=1) hX;have e:=Kv (i:=2) hX;have U:=Kv (i:=3) hX;have I:HA.next=4:=by subst hX;rfl
 clear hX;refine bP ?_;simp only[↓zP,zJ,seval,g0,g,oL G,oL j];refine eI (d _) ?_;simp only[↓zP,zJ,seval,g,oL j,Bg,Dx];refine eI (M _) ?_;simp only[↓zP,zG,seval,w];refine bQ ?_;refine aP fun K hK=>?_
 have key:∀f:dI,f 2=.ref 0 0->f 3=.ref 1 0->f 4=.ref 2 0->f 5=.ref 3 0->K f [] HA:=by
  intro f P S l s;apply hK;clear hK K;refine bP ?_;simp only[↓zP,zJ,seval,P,S,g0,g,oL G,oL j,X,dy,lx,ly];refine eI (D _) ?_;simp only[↓zP,zJ,seval,I,Z,E];refine bQ ?_;generalize hX:aB.set _ 5 _=t
  replace g:=Kx (i:=1) hX
  replace g0:=Kx (i:=0) hX
  replace e:=Kx (i:=2) hX
  replace U:=Kx (i:=3) hX
  have R:=Kv (i:=4) hX;have g5:=Kv (i:=5) hX
  replace I:t.next=6:=by subst hX;simp only[zI,seval,I]
  clear hX HA;refine cC fun f' N=>?_;have k2:=Ks N P;have k3:=Ks N S;have k4:=Ks N l;have k5:=Ks N s;have ad:=Kf (i:=12) N;have a:=Kf (i:=13) N;clear N P S l s f;have sq:=jI (n:= !(decide (x<0)==decide (y<0))) (m:=q) A0 (z:=sg (decide (x<0) != decide (y<0)) q) rfl;refine bP ?_;simp only[↓zP,zJ,seval,k2,k3,ad,g0,g,R,G,j,n0,n1,Z];refine eI (sq _) ?_;generalize an:sg (decide (x<0) != decide (y<0)) q=q0 at *;simp only[↓zP,zJ,seval,I,k,F,oL F];refine bQ ?_;generalize hX:aB.set _ 6 _=HC
  replace g:=Kx (i:=1) hX
  replace g0:=Kx (i:=0) hX
  replace e:=Kx (i:=2) hX
  replace U:=Kx (i:=3) hX
  replace g5:=Kx (i:=5) hX
  have V:=Kv (i:=6) hX;clear hX I R t;refine cC fun f N=>?_
  replace k2:=Kg (i:=2) N
  replace k3:=Kg (i:=3) N
  replace k4:=Kg (i:=4) N
  replace k5:=Kg (i:=5) N
  replace a:=Kg (i:=13) N
  have a6:=Kf (i:=14) N;clear N ad f';refine aP fun K hK=>?_
  have p:∀(f:dI) (HD:aB) (u:Nat),x.fmod y=sg (decide (y<0)) u->u<W^16->f 3=.ref 1 0->f 4=.ref 2 0->f 5=.ref 3 0->f 13=.ref 5 0->f 14=.ref 6 0->HD.get 1=some (.cells (cI y) false)->
   HD.get 2=some (.cells (AV.bool false::AV.bool false::wC zs) false)->HD.get 3=some (.cells (AV.bool false::AV.bool false::wC zs) false)->HD.get 5=some (.cells (wC (aV 16 u)) false)->HD.get 6=some (.cells (cI (x.fdiv y)) false)->K f [] HD:=by
   intro f HD u ag aj k3 k4 k5 a a6 g e U g5 V;apply hK;clear hK K;have af:=iL (.aV u);have sr:=jI (n:=decide (y<0)) aj ag;refine bP ?_;refine Dz ?_;simp only[↓zP,zJ,seval,zD,k3,a,a6,g,g5,V,j,n1,af,oL (k _)];refine gV (sr _) ?_;simp only[↓zP,zJ,seval,zD,k4,k5,e,U,k,F,oL F];refine bQ ?_;refine Tx ?_;refine⟨rfl,_,by simp only[↓zP,zR,seval,k4,k5,k,oL (k _)];rfl,?_⟩;rfl
  clear hK;by_cases v:r=0
  . have Y:(!decide (aV 16 r=zs))=false:=by rw[ae,Af v];rfl
    rw[if_neg (fun h=>h.1 v)] at a7 ab;refine Wz ?_;exact Zbh
  have Y:(!decide (aV 16 r=zs))=true:=by rw[ae,Ac v];rfl
  by_cases c1:decide (x<0)=decide (y<0)
  . have T:(!(decide (x<0)==decide (y<0)))=false:=by rw[c1,Hh];rfl
    rw[if_neg (fun h=>h.2 c1)] at a7 ab;simp only[↓zP,zJ,seval,k2,k3,a,g0,g,g5,E,G,j,n0,n1,Y,T];exact Zbh
  have T:(!(decide (x<0)==decide (y<0)))=true:=by rw[beq_false_of_ne c1];rfl
  rw[if_pos ⟨v,c1⟩] at a7 ab;have o1:=uP (z:=1) A1 A1;have ar:q0.natAbs<=x.natAbs:=by rw[<-an,jU];exact ak
  have sb:=ZX (.enc (show q0.natAbs<W^16 by omega)) (.enc (show(1:Int).natAbs<W^16 by decide))
  have Ol:oI (some q0) (wH (some 1))=some (x.fdiv y):=by show norm (q0+ -1)=_;rw[a7];unfold norm;rw[if_pos (by rw[<-Int.sub_eq_add_neg,<-a7];omega)];rfl
  rw[Ol] at sb;have mn:=Qd c (show r<=y.natAbs by omega);have lm:=iL (.aV (y.natAbs -r));have aq:(cI y).drop 2=wC (aV 16 y.natAbs):=rfl;refine Wz ?_;refine Dz ?_;simp only[↓zP,zJ,seval,zD,a6,V,oL (k _)];refine gV (o1 _) ?_;refine gV (sb _) ?_;simp only[↓zP,zJ,seval,zD,k3,a,g,g5,j,aq,ly,E];refine gV (mn _) ?_;simp only[↓zP,zJ,seval,zD,a,a6,g5,V,lm,E,k,oL (k _)];refine p _ _ (y.natAbs -r) ab A0 ?_ ?_ ?_ ?_ ?_ ?_ ?_ ?_ ?_ ?_
  . simp only[zB,seval,k3]
  . simp only[zB,seval,k4]
  . simp only[zB,seval,k5]
  . simp only[zB,seval,a]
  . simp only[zB,seval,a6]
  . simp only[zI,seval,g]
  . simp only[zI,seval,e]
  . simp only[zI,seval,U]
  . simp only[zI,seval]
  simp only[zI,seval];rfl
 clear hK;refine bP ?_;refine Wz ?_;refine bQ ?_;refine cC fun f N=>?_;have P:=Kf (i:=2) N;have S:=Kf (i:=3) N;have l:=Kf (i:=4) N;have s:=Kf (i:=5) N;have L:=Kf (i:=6) N;have J:=Kf (i:=7) N;clear N;by_cases cx: -2^63<x/\x<2^63
 . have T:fU (some x)=(x,true):=by simp only[fU];rw[if_pos A0]
   have nx:(x != -9223372036854775808)=true:=Ge.2 A0;rw[T] at L J;simp only[↓zP,zJ,seval,L,J,nx,S,g,oL j];refine eI (h2 _) ?_;refine Ty ?_;by_cases cy: -2^63<=y/\y<2^63
   . have o:fU (some y)=(y,true):=(by simp only[fU];rw[if_pos A0]);have ny:(y != -9223372036854775808)=false:=Zag;simp only[zG,seval,o,ny];exact ZaM
   have o:fU (some y)=(0,false):=(by simp only[fU];rw[if_neg A0]);simp only[zG,seval,o];exact ZaM
 by_cases aA: -2^63<=x/\x<2^63
 . have o:fU (some x)=(x,true):=by simp only[fU];rw[if_pos A0]
   have nx:(x != -9223372036854775808)=false:=Zag;rw[o] at L J;simp only[↓zP,zG,seval,L,J,nx];exact ZaM
 have o:fU (some x)=(0,false):=by simp only[fU];rw[if_neg A0]
 rw[o] at L J;simp only[↓zP,zG,seval,J];exact ZaM
theorem Po(I:eJ a x)(X:eJ b y)(H:aB):
 Sg 196 [.agg a,.agg b] H (.ret (.iV [.agg (cO (rO x y).1),.agg (cO (rO x y).2)])) H:=by
 cases x with
 |none=>exact DA I X (.inl rfl) H
 |some x=>cases y with
  |none=>exact DA I X (.inl rfl) H
  |some y=>
   simp only[rO];by_cases Q:y=0
   . rw[if_pos Q];exact DA I X (.inr (by grind)) H
   rw[if_neg Q];by_cases M: -2^63<x/\x<2^63/\-2^63<y/\y<2^63
   . have :=Ro I X M.1 M.2.1 M.2.2.1 M.2.2.2 Q H;rw[aMk Q] at this;exact this
   obtain⟨rfl,C⟩:=I.some;obtain⟨rfl,c⟩:=X.some;exact Ug C c Q M H
theorem HV(I:eJ a x)(X:eJ b y)(H:aB):
 Sg 108 [.agg a,.agg b] H (.ret (.agg (cO (rO x y).1))) H:=by
 refine So bGb Zan ?_ H;unfold aTu;exact Zai
theorem ZV(I:eJ a x)(X:eJ b y)(H:aB):
 Sg 109 [.agg a,.agg b] H (.ret (.agg (cO (rO x y).2))) H:=by
 refine So bGc Zan ?_ H;unfold aTv;exact Zai
theorem Yw{z:Int}(h:z.natAbs<2^64):aT z.natAbs 1*4294967296+aT z.natAbs 0=z.natAbs:=by
 have hW:W=4294967296:=rfl;have Z:aT z.natAbs 0=z.natAbs%W:=by simp[aT]
 have B:aT z.natAbs 1=z.natAbs / W:=by unfold aT;rw[Nat.pow_one,hW,Bk A0]
 rw[Z,B,Cc];exact Dt _ _
theorem ym{x y B:Nat}(C:x<B)(Q:y<B):Nat.gcd x y<B:=by
 rcases Fy x with h|h
 . subst h;rw[Nat.gcd_zero_left];exact Q
 exact Bv (Nat.gcd_le_left _ h) C
theorem aJe{a:Nat}(h:a<2^64):sz a<=2:=by
 rcases PC 16 a with h0|h0
 . unfold sz;omega
 refine Nat.not_lt.1 fun B=>h0 ?_;unfold sz at B;unfold aT;have :W^2<=W^(qy 16 a -1):=Bu A1 A0;have hW:W^2=2^64:=rfl;rw[Dg A0];rfl
theorem tq{x y:Int}(I:eJ a (some x))(X:eJ b (some y))(C:x.natAbs<2^64)(Q:y.natAbs<2^64)(H:aB):
 Sg 113 [.agg a,.agg b] H (.ret (.agg (cI (Int.gcd x y)))) H:=by
 refine Sp aFo Zan Zaj ?_ H;unfold aCc;dsimp only;have d:=qR I X;have s1:=tY x.natAbs;have s2:=tY y.natAbs;have G:=I.len;have j:=X.len;obtain⟨rfl,hz⟩:=I.some;obtain⟨rfl,a6⟩:=X.some;refine bP ?_;refine Wz ?_;refine fQ ?_;have :=oL G;have :=oL j;have := @Dx;refine Wz ?_;refine bQ ?_;have F:(AV.bool false::AV.bool false::wC zs).length=18:=by simp[cK];rfl
 have k:∀z,(cI z).length=18:=fun z=>cL z;generalize hX:(((aB.mk 0 .nil).alloc _).alloc _).alloc _=c;have g0:=Kx (i:=0) hX;have g:=Kx (i:=1) hX;have e:=Kx (i:=2) hX;clear hX;refine cC fun f N=>?_;have P:=Kg (i:=2) N;have S:=Kg (i:=3) N;have l:=Kg (i:=4) N;clear N;have lx:=iL (.aV x.natAbs);have ly:=iL (.aV y.natAbs);have dx:(cI x).drop 2=wC (aV 16 x.natAbs):=rfl;have V:(cI y).drop 2=wC (aV 16 y.natAbs):=rfl;refine aP fun K hK=>?_;refine Wy ?_;have T:decide (((sz x.natAbs:Nat):Int)<=2)=true:=Af (by have :=aJe C;omega);have o:decide (((sz y.natAbs:Nat):Int)<=2)=true:=Af (by have :=aJe Q;omega);refine Wy ?_;refine Dz ?_;have h0:=dC x.natAbs 0;have O:=dC x.natAbs 1;have k0:=dC y.natAbs 0;have k1:=dC y.natAbs 1;have hW:W=4294967296:=rfl;have p0:(cI x).getD 2 aC=.int .u32 (aT x.natAbs 0:Nat):=gP (a:=x.natAbs) (i:=0) A1;have p1:(cI x).getD 3 aC=.int .u32 (aT x.natAbs 1:Nat):=gP (a:=x.natAbs) (i:=1) A1;have p:(cI y).getD 2 aC=.int .u32 (aT y.natAbs 0:Nat):=gP (a:=y.natAbs) (i:=0) A1;have q1:(cI y).getD 3 aC=.int .u32 (aT y.natAbs 1:Nat):=gP (a:=y.natAbs) (i:=1) A1;have w0:IntKind.u64.wrap ((aT x.natAbs 0:Nat):Int)=(aT x.natAbs 0:Nat):=jA A0 (.inl rfl);have w1:IntKind.u64.wrap ((aT x.natAbs 1:Nat):Int)=(aT x.natAbs 1:Nat):=jA A0 (.inl rfl);have v0:IntKind.u64.wrap ((aT y.natAbs 0:Nat):Int)=(aT y.natAbs 0:Nat):=jA A0 (.inl rfl);have D:IntKind.u64.wrap ((aT y.natAbs 1:Nat):Int)=(aT y.natAbs 1:Nat):=jA A0 (.inl rfl);have Z:=e9 O h0;have R:=e9 k1 k0;rw[Yw C] at Z;rw[Yw Q] at R;simp only[↓zP,zJ,Nat.reduceLT,Nat.reduceEqDiff,Nat.reduceAdd,zD,reduceCtorEq,Nat.reduceLeDiff,Int.reduceLT,P,S,g0,g,oL G,oL j,AH,p0,p1,p,q1,w0,w1,v0,D,Z,R];refine cC fun u N=>?_;have Rr:=Kg (i:=4) N;have s:=Kg (i:=5) N;have L:=Kf (i:=6) N;clear N P S l;refine aM (jW [5,6] (fun m vs H'=>H'=c/\∃a b:Nat,vs=[.int .u64 (a:Nat),.int .u64 (b:Nat)]/\a<2^64/\b<2^64/\m=b/\Nat.gcd a b=Nat.gcd x.natAbs y.natAbs) y.natAbs (by rfl) ?_ ?_)
 . exact⟨rfl,_,_,by simp only[sm,s,L],C,Q,rfl,rfl⟩
 rintro b f H1 E ⟨rfl,a,_,J,B,A,rfl,v⟩;simp only[zM] at J;obtain⟨M,w⟩:=J;have l:=(E 4 rfl).trans Rr;by_cases q:b=0
 . subst q;have Y:(((0:Nat):Int) != 0)=false:=rfl;have t:a=Int.gcd x y:=by rw[Nat.gcd_zero_right] at v;exact v
   have l2:=TV B;have hl:=UQ.aV a;have p:((a%W:Nat):Int)=(aT a 0:Nat):=(by simp[aT]);have q1:((a / W%W:Nat):Int)=(aT a 1:Nat):=(by simp[aT]);have U:1<=(List.drop 1 (wC zs)).length:=A1;have h:=jI (n:=false) (m:=a) (Cx B A1) (z:=(a:Int)) rfl;simp only[↓zP,zJ,Nat.reduceLT,Nat.reduceEqDiff,Nat.reduceAdd,Nat.reduceLeDiff,Int.reduceLT,M,w,Y,CB,Mf,p,q1,l2,U];refine eI (h _) ?_;simp only[↓zP,zJ,Nat.reduceEqDiff,l,e,k,F,oL F];refine⟨rfl,_,by simp only[↓zP,zR,Nat.reduceEqDiff,l,e,k,oL (k _)];rfl,?_⟩;rw[t];rfl
 have Y:(((b:Nat):Int) != 0)=true:=Ge.2 A0;have ab:¬((b:Nat):Int)=0:=by omega
 refine Wy ?_;refine aM ?_;refine Dz ?_;refine Wy ?_;have ht:Int.tmod (a:Int) (b:Int)=((a%b:Nat):Int):=rfl;have r:a%b<b:=Bz _ A0;have a7:IntKind.u64.wrap ((a%b:Nat):Int)=((a%b:Nat):Int):=jA A0 (.inl rfl);rw[ht];exact⟨_,r,b,a%b,rfl,A,by omega,rfl,by rw[It,<-Nat.gcd_rec,It,v]⟩
theorem Og{x y:Int}(C:x.natAbs<W^16)(Q:y.natAbs<W^16):(Int.gcd x y:Int).natAbs<W^16:=by rw[Cs];exact ym C Q
theorem aBv(n:Nat):∀{x y:Int},y.natAbs=n->x.natAbs<W^16->y.natAbs<W^16->∀H:aB,Sg 113 [.agg (cI x),.agg (cI y)] H (.ret (.agg (cI (Int.gcd x y)))) H:=by
 induction n using Nat.strongRecOn with
 |_ n ih=>
 intro x y hn C Q H;by_cases L:sz x.natAbs<=2/\sz y.natAbs<=2
 . have p:W^2=2^64:=rfl;exact tq (.enc C) (.enc Q) (by rw[<-p];exact(NM C).1 L.1) (by rw[<-p];exact(NM Q).1 L.2) H
 refine Sp aFo Zaj Zaj ?_ H;unfold aCc;dsimp only;have d:=qR (.enc C) (.enc Q);have s1:=tY x.natAbs;have s2:=tY y.natAbs;have G:=cL x;have j:=cL y;have k:∀z,(cI z).length=18:=fun z=>cL z;have F:(AV.bool false::AV.bool false::wC zs).length=18:=by simp[cK];rfl
 have w:∀b A B,gM aC b A B=B:=fun _ _ _=>rfl;have a:=iL (.aV x.natAbs);have s:=iL (.aV y.natAbs);have X:(cI x).drop 2=wC (aV 16 x.natAbs):=rfl;have V:(cI y).drop 2=wC (aV 16 y.natAbs):=rfl;refine bP ?_;refine Ty ?_;refine bQ ?_;generalize hX:(((aB.mk 0 .nil).alloc _).alloc _).alloc _=c;have g0:=Kv (i:=0) hX;have g:=Kv (i:=1) hX;have e:=Kv (i:=2) hX;have I:c.next=3:=by subst hX;rfl
 have N:aY c:=by subst hX;exact(((aY.nil _).alloc _).alloc _).alloc _
 clear hX;refine bP ?_;have :=oL G;have :=oL j;have := @Dx;refine Wz ?_;refine bQ ?_;refine cC fun f N=>?_;have P:=Kf (i:=2) N;have S:=Kf (i:=3) N;have l:=Kf (i:=4) N;clear N;refine aP fun K hK=>?_
 have key:∀f:dI,f 2=.ref 0 0->f 3=.ref 1 0->f 4=.ref 2 0->K f [] c:=by
  intro f P S l;apply hK;clear hK K;refine aP fun K hK=>?_;refine bP ?_;refine fZ 2 A1 (aY.at2 (by assumption)) fun H1 n1 T=>?_;simp only[↓zP,zJ,seval,zD,P,S,T,g0,g,I,G,j,X,V,a,s];refine bQ ?_;generalize hX:aB.set _ 4 _=t
  replace g0:=Kx (i:=0) hX
  replace e:=Kx (i:=2) hX
  have U:=Kv (i:=3) hX;have R:=Kv (i:=4) hX
  replace I:t.next=5:=by subst hX;simp only[zI,seval,n1,I]
  clear hX T n1 g N c H1;refine cC fun u N=>?_;have k2:=Ks N P;have k4:=Ks N l;have k7:=Kf (i:=7) N;have k8:=Kf (i:=8) N;clear N P S l f;have J:decide (aV 16 y.natAbs=zs)=decide (y.natAbs=0):=by rw[Bj];exact wS Q
  by_cases h:y.natAbs=0
  . have Y:(!decide (aV 16 y.natAbs=zs))=false:=by rw[J,Af h];rfl
    have ab:=aBh (.enc C)
    have M:aYl (some x)=some (Int.gcd x y:Int):=by have :y=0:=A0;rw[this,Int.gcd_zero_right];rfl
    rw[M] at ab;simp only[↓zP,zJ,seval,k8,R,s,Y];apply hK;clear hK K;refine Wz ?_;have ec:cO (some (Int.gcd x y:Int))=cI (Int.gcd x y):=rfl;have :=oL F;refine Wz ?_;exact Zb7
  clear hK;have Y:(!decide (aV 16 y.natAbs=zs))=true:=by rw[J,Ac h];rfl
  have D:=Nv C Q (show 0<y.natAbs by omega);have VA:x.natAbs%y.natAbs<y.natAbs:=Bz _ A0;have Z:=iL (.aV (x.natAbs / y.natAbs));have E:=iL (.aV (x.natAbs%y.natAbs));have s1:=jI (n:=false) Q (z:=(y.natAbs:Int)) rfl;have s2:=jI (n:=false) (m:=x.natAbs%y.natAbs) A0 (z:=((x.natAbs%y.natAbs:Nat):Int)) rfl;have v:=ih (x.natAbs%y.natAbs) A0 (x:=(y.natAbs:Int)) (y:=((x.natAbs%y.natAbs:Nat):Int)) rfl (by rw[Cs];exact Q) (by rw[Cs];omega)
  have M:Int.gcd (y.natAbs:Int) ((x.natAbs%y.natAbs:Nat):Int)=Int.gcd x y:=by show Nat.gcd y.natAbs (x.natAbs%y.natAbs)=Nat.gcd x.natAbs y.natAbs;rw[It,<-Nat.gcd_rec,It]
  rw[M] at v;generalize hR:x.natAbs%y.natAbs=r at *;generalize hQ:x.natAbs / y.natAbs=q at *;simp only[↓zP,zJ,seval,k7,k8,U,R,a,s,Y];refine eI (D _) ?_;simp only[↓zP,zJ,seval,I,Z,E];refine Dz ?_;simp only[↓zP,zJ,seval,zD,k8,I,R,s];refine gV (s1 _) ?_;simp only[↓zP,zJ,seval,zD,E];refine gV (s2 _) ?_;simp only[seval];refine gV (v _) ?_;simp only[↓zP,zJ,seval,zD,k4,I,e,k,F,oL F];exact Zb7
 clear hK;by_cases O:sz x.natAbs<=2
 . have T:decide (((sz x.natAbs:Nat):Int)<=2)=true:=Af A0;have o:decide (((sz y.natAbs:Nat):Int)<=2)=false:=Ac A0;simp only[↓zP,zJ,seval,P,g0,oL G,X,a];refine eI (s1 _) ?_;simp only[↓zP,zJ,seval,S,g,oL j,V,s,T];refine eI (s2 _) ?_;simp only[↓zP,zG,seval,o];refine key _ ?_ ?_ ?_<;>simp only[zB,seval,P,S,l]
 have T:decide (((sz x.natAbs:Nat):Int)<=2)=false:=Ac A0;simp only[↓zP,zJ,seval,P,g0,oL G,X,a];refine eI (s1 _) ?_;simp only[↓zP,zG,seval,T];refine key _ ?_ ?_ ?_<;>simp only[zB,seval,P,S,l]
def aEo:Option Int->Option Int->Option Int
 |some x,some y=>some (Int.gcd x y)
 |_,_=>none
theorem kg(I:eJ a x)(X:eJ b y)(f:(x.isSome&&y.isSome)=false)(H:aB):Sg 113 [.agg a,.agg b] H (.ret (.agg xH)) H:=by
 refine So aFo Zan ?_ H;unfold aCc;dsimp only;have d:=qR I X;rw[f] at d;have G:=I.len;have j:=X.len;have F:(AV.bool false::AV.bool false::wC zs).length=18:=by simp[cK];rfl
 have k:=oL (show xH.length=18 from mG none);refine bP ?_;refine Ty ?_;refine bQ ?_;refine aP fun K hK=>?_;have :=oL G;have :=oL j;have :=tD;have :=oL F;refine Wy ?_;exact Zba
theorem UO(I:eJ a x)(X:eJ b y)(H:aB):Sg 113 [.agg a,.agg b] H (.ret (.agg (cO (aEo x y)))) H:=by
 cases x with
 |none=>exact kg I X rfl H
 |some x=>cases y with
  |none=>exact kg I X rfl H
  |some y=>obtain⟨rfl,C⟩:=I.some;obtain⟨rfl,Q⟩:=X.some;exact aBv _ rfl C Q H
theorem eJ.gcd{w:List AV}(h:eJ v x)(Z:eJ w y):eJ (cO (aEo x y)) (aEo x y):=by
 cases x with
 |none=>exact .bad
 |some x=>cases y with
  |none=>exact .bad
  |some y=>exact .enc (Og h.fit Z.fit)
end Go.Proofs.YtogfcjbgeebfkaaGreatDoor
namespace Go.Proofs.YtogfcjbgeebfkaaGreatDoor
open Go Go.Av
def aTy:CW Tryz.f112:=⟨_,dD⟩
theorem bGf:Fi 112 aTy:=dH Tryz.func112 aTy
def W42:CW Tryz.f42:=⟨_,Mx⟩
theorem bQu:Fi 42 W42:=dH Tryz.func42 W42
end Go.Proofs.YtogfcjbgeebfkaaGreatDoor
namespace Go.Proofs.YtogfcjbgeebfkaaGreatDoor
open Go Go.Av Go.iW
attribute [local congr] aZ aQ aR aL bD aU aS aG bE
attribute [local irreducible] FC bS eE
def Yu:Option Int->Option Int->Option Rat
 |some n,some d=>if 0<d/\Int.gcd n d=1 then some (Rat.divInt n d) else none
 |_,_=>none
def cQ(q:Rat):List AV:=cI q.num++cI q.den
def Rj:List AV:=xH++cI 1
def gL:Option Rat->List AV
 |some q=>cQ q
 |none=>Rj
def tP(q:Rat):Prop:=q.num.natAbs<W^16/\q.den<W^16
instance (q:Rat):Decidable (tP q):=inferInstanceAs (Decidable (_/\_))
def lA(v:List AV)(x:Option Rat):Prop:=∃a b n d,v=a++b/\eJ a n/\eJ b d/\x=Yu n d
variable{n d:Option Int}{q:Rat}
theorem aAy(h:Yu n d=some q):n=some q.num/\d=some (q.den:Int):=by
 cases n with
 |none=>cases h
 |some n=>cases d with
  |none=>cases h
  |some d=>
   simp only[Yu] at h;split at h
   . rename_i hd;obtain rfl:=Aa h;have a:d.gcd n=1:=(by rw[Int.gcd_comm];exact hd.2);rw[Rat.num_divInt,Rat.den_divInt,a,if_neg A0,Int.sign_eq_one_of_pos hd.1];simp;omega
   cases h
theorem aJq(q:Rat):Yu (some q.num) (some (q.den:Int))=some q:=by have O:=Nat.pos_of_ne_zero q.den_nz;have Z:Int.gcd q.num q.den=1:=q.reduced;simp only[Yu];rw[if_pos ⟨by omega,Z⟩,<-Rat.mk_eq_divInt (nz:=q.den_nz) (c:=q.reduced)]
variable{v:List AV}
theorem lA.some(h:lA v (Option.some q)):v=cQ q/\tP q:=by obtain⟨a,b,n,d,rfl,I,X,C⟩:=h;obtain⟨rfl,rfl⟩:=aAy C.symm;obtain⟨rfl,O⟩:=I.some;obtain⟨rfl,Z⟩:=X.some;exact⟨rfl,O,by simpa using Z⟩
theorem lA.enc(h:tP q):lA (cQ q) (Option.some q):=⟨_,_,_,_,rfl,.enc h.1,.enc (by simpa using h.2),(aJq q).symm⟩
theorem lA.bad:lA Rj none:=⟨_,_,none,Option.some 1,rfl,.bad,.enc A1,rfl⟩
variable{x:Option Rat}
theorem lA.len(h:lA v x):v.length=36:=by obtain⟨a,b,n,d,rfl,I,X,C⟩:=h;rw[Aq,I.len,X.len]
theorem lA.free(h:lA v x):cP v=true:=by obtain⟨a,b,n,d,rfl,I,X,C⟩:=h;rw[jX,I.free,X.free];rfl
theorem Zg(q:Rat):(cQ q).length=36:=by rw[cQ,Aq,cL,cL]
theorem cZ(x:Option Rat):(gL x).length=36:=by
 cases x
 . exact lA.bad.len
 exact Zg _
theorem eW(x:Option Rat):cP (gL x)=true:=by
 cases x
 . exact lA.bad.free
 simp only[gL,cQ,jX,dG];rfl
variable{a b:List AV}
theorem qS(I:a.length=18)(X:b.length=18):(a++b).length=36/\(a++b).take 18=a/\(a++b).drop 18=b/\(a++b).take 36=a++b/\(a++b).drop 36=[]:=by refine⟨by rw[Aq,I,X],by rw[<-I];simp,by rw[<-I];simp,Bd Zag,Bl Zag⟩
theorem eqI{x y:Int}(C:x.natAbs<W^16)(Q:y.natAbs<W^16):cE [.b,.b,.i,.i,.i,.i,.i,.i,.i,.i,.i,.i,.i,.i,.i,.i,.i,.i] (cI x) (cI y)=some (decide (x=y)):=by
 unfold cI;simp only[cE,EW (cW 16 _) (cW 16 _),Cq,Hh,Dm];congr 1;rw[Eh,Ak,Dr,Bj,decide_eq_true_iff,decide_eq_true_iff];constructor
 . rintro⟨O,Z⟩;have B:x.natAbs=y.natAbs:=by rw[<-fP C,Z,fP Q]
   omega
 rintro rfl;exact⟨Iff.rfl,rfl⟩
def HO:List AV:=(AV.bool false::.bool false::wC zs)++(AV.bool false::.bool false::wC zs)
theorem lG:[AV.bool false,.bool false,.int .u32 0,.int .u32 0,.int .u32 0,.int .u32 0,.int .u32 0,.int .u32 0,.int .u32 0,.int .u32 0,.int .u32 0,.int .u32 0,.int .u32 0,.int .u32 0,.int .u32 0,.int .u32 0,.int .u32 0,.int .u32 0,.bool false,.bool false,.int .u32 0,.int .u32 0,.int .u32 0,.int .u32 0,.int .u32 0,.int .u32 0,.int .u32 0,.int .u32 0,.int .u32 0,.int .u32 0,.int .u32 0,.int .u32 0,.int .u32 0,.int .u32 0,.int .u32 0,.int .u32 0]=HO:=rfl
theorem fV:HO.length=36:=rfl
theorem NP:(AV.bool false::AV.bool false::wC zs).length=18:=rfl
theorem Lu{x:Option Int}(I:eJ a x)(H:aB):Sg 195 [.agg a] H (.ret (.bool x.isSome)) H:=by
 refine So bHv ZaJ ?_ H;unfold aVn;dsimp only;have G:=I.len;obtain⟨r,rfl,-,V⟩:=I.raw;obtain⟨b,n,l,U⟩:=r;have J:=We b n U;have w:∀b A B,gM aC b A B=B:=fun _ _ _=>rfl;have Y:(xE.cells ⟨b,n,l,U⟩).getD 0 aC=.bool b:=rfl;simp only[xE.XV,GS] at V;rw[<-V];change (AV.bool b::.bool n::wC l).length=18 at G;cases b
 . simp only[↓zP,zJ,seval,xE.cells,G,oL G];refine eI (J _) ?_;refine Tz ?_;refine Rx ?_;cases n<;>cases decide (l=zs)<;>rfl
 simp only[↓zP,zJ,seval,xE.cells,G];exact ZaB
theorem Vg(H:aB):Sg 147 [] H (.ret (.agg (cI 1))) H:=by refine Sp aSc Zad Zaj ?_ H;unfold aKq;dsimp only;have :=uP (z:=1) A1 A1;refine Wz ?_;refine Rx ?_;rfl
theorem qZ(H:aB):Sg 112 [] H (.ret (.agg Rj)) H:=by refine Sp bGf Zad (by simp only[sf];exact eW none) ?_ H;unfold aTy;dsimp only;have j:=mG none;have L:=cL 1;have s:=qS j NP;have Z:=qS j L;rw[show cO none=xH from rfl] at j s Z;refine bP ?_;simp only[↓zP,zG,seval,lG];refine bQ ?_;have :=tD;have :=Vg;have :=oL fV;refine Wz ?_;refine⟨rfl,_,by simp only[↓zP,zR,seval,Z];rfl,?_⟩;rfl
def FK:Option Int->Option Int->Option Rat
 |some n,some d=>if d=0 then none else some (Rat.divInt n d)
 |_,_=>none
theorem lS(J:lA v x)(H:aB):Sg 107 [.agg v] H (.ret (.bool x.isSome)) H:=by
 refine So bGa Zby ?_ H;unfold aTt;dsimp only;obtain⟨a,b,n,d,rfl,I,X,rfl⟩:=J;have f:=qS I.len X.len;have g:=Lu I;have e:=Lu X;have sg:=tR X;have k:=UO I X;have G:=I.len;have j:=X.len;have w:∀b A B,gM aC b A B=B:=fun _ _ _=>rfl;simp only[↓zP,zJ,seval,f];refine eI (g _) ?_
 cases n with
 |none=>refine Wz ?_;refine Rx ?_;rfl
 |some n=>
 simp only[↓zP,zJ,seval,Bg,f,oL j];refine eI (e _) ?_
 cases d with
 |none=>refine Wz ?_;refine Rx ?_;rfl
 |some d=>
 simp only[↓zP,zJ,seval,Bg,f,oL j];refine eI (sg _) ?_;by_cases hd:0<d
 . have T:decide (iI (some d)>0)=true:=by simp only[iI];split<;>(try split)<;>first|omega|rfl
   have c:cE [.b,.b,.i,.i,.i,.i,.i,.i,.i,.i,.i,.i,.i,.i,.i,.i,.i,.i] (cI (Int.gcd n d)) (cI 1)=some (decide ((Int.gcd n d:Int)=1)):=eqI (Og I.fit X.fit) A1;simp only[↓zP,zJ,seval,T,f,oL j];refine eI (k _) ?_;refine Tz ?_;refine eI (Vg _) ?_;simp only[↓zP,zG,seval,aEo,cO,c];refine Rx ?_;simp only[Yu,hd,Ke];by_cases h:Int.gcd n d=1
   . rw[if_pos h,Af A0];rfl
   rw[if_neg h,Ac A0];rfl
 have T:decide (iI (some d)>0)=false:=by simp only[iI];split<;>(try split)<;>first|omega|rfl
 refine Wz ?_;refine Rx ?_;simp only[Yu,hd,false_and,Db];rfl
def DV(n d:Int):Int:=if d<0 then -(Int.gcd n d:Int) else(Int.gcd n d:Int)
theorem uW{g k:Int}(h:g≠0):(g*k).fdiv g=k:=by simp_all
theorem Qe{n d:Int}(hd:d≠0):DV n d≠0/\n.fdiv (DV n d)=(Rat.divInt n d).num/\d.fdiv (DV n d)=((Rat.divInt n d).den:Int):=by
 have e:Int.gcd n d≠0:=fun h=>hd (Kq.1 h).2;have c:((Int.gcd n d:Nat):Int)≠0:=by omega
 obtain⟨k,E⟩:=Ei n d;obtain⟨m,t⟩:=Dq n d;have b:d.gcd n=n.gcd d:=Int.gcd_comm d n;rw[Rat.num_divInt,Rat.den_divInt,if_neg hd,b];generalize q:Int.gcd n d=g at *;have j:0<g:=by omega
 have a:DV n d=if d<0 then -(g:Int) else(g:Int):=by unfold DV;rw[q]
 rw[a];have T:∀s:Int,s*n / (g:Int)=s*k:=fun s=>by rw[E,Int.mul_left_comm,Jm _ c]
 have o:d.natAbs / g=m.natAbs:=by rw[t,Ew,Cs,Nat.mul_div_cancel_left _ j]
 rw[T,o];by_cases A:d<0
 . have y:m<0:=by
    rcases Int.lt_or_le m 0 with h|h
    . exact h
    have :=Fk (show 0<=(g:Int) by omega) h;omega
   rw[if_pos A,Int.sign_eq_neg_one_of_neg A];refine⟨by omega,?_,?_⟩
   . conv=>lhs;rw[E]
     rw[show(g:Int)*k= -(g:Int)*(-k) by rw[Int.neg_mul_neg],uW A0];omega
   conv=>lhs;rw[t]
   rw[show(g:Int)*m= -(g:Int)*(-m) by rw[Int.neg_mul_neg],uW A0];omega
 have y:0<m:=by
  rcases Int.lt_or_le 0 m with h|h
  . exact h
  have Z:(g:Int)*m<=0:=Int.mul_nonpos_of_nonneg_of_nonpos A0 h;omega
 rw[if_neg A,Int.sign_eq_one_of_pos A0];refine⟨c,?_,?_⟩
 . conv=>lhs;rw[E]
   rw[uW c,Int.one_mul]
 conv=>lhs;rw[t]
 rw[uW c];omega
theorem dw{n d:Int}(hd:d≠0)(A:n.natAbs<W^16)(a:d.natAbs<W^16):tP (Rat.divInt n d):=by
 obtain⟨G,O,Z⟩:=Qe (n:=n) hd;refine⟨?_,?_⟩
 . rw[<-O];exact Bv (uV G).1 A
 have :=(uV (x:=d) G).1;omega
theorem lA.mk(I:eJ a n)(X:eJ b d):lA (gL (FK n d)) (FK n d):=by
 cases n with
 |none=>exact .bad
 |some n=>cases d with
  |none=>exact .bad
  |some d=>
   simp only[FK];split
   . exact .bad
   rename_i hd;exact .enc (dw hd I.fit X.fit)
theorem vM(I:eJ a n)(X:eJ b d)(H:aB):
 Sg 106 [.agg a,.agg b] H (.ret (.agg (gL (FK n d)))) H:=by
 refine Sp bFz Zan Zao ?_ H;unfold aTs;dsimp only;have g:=Lu I;have e:=Lu X;have sg:=tR X;have v:=UO I X;have la:=I.len;have j:=X.len;have k:∀z,(cI z).length=18:=fun z=>cL z;have V:=oL (show Rj.length=36 from cZ none);have w:∀b A B,gM aC b A B=B:=fun _ _ _=>rfl;refine aP fun K hK=>?_;simp only[↓zP,zG,seval,lG];apply hK;clear hK K;generalize hX:(((aB.mk 0 .nil).alloc _).alloc _).alloc _=c;have E:c.next=3:=by subst hX;rfl
 have U:=Kv (i:=0) hX;have s:=Kv (i:=1) hX;have q:=Kv (i:=2) hX;clear hX;refine aP fun K hK=>?_;have :=oL la;refine Wy ?_
 cases n with
 |none=>have :=qZ;have :=oL fV;refine Wy ?_;refine⟨rfl,_,by simp only[↓zP,zR,seval,V];rfl,?_⟩;rfl
 |some n=>
 have :=oL j;refine Wy ?_
 cases d with
 |none=>have :=qZ;have :=oL fV;refine Wy ?_;refine⟨rfl,_,by simp only[↓zP,zR,seval,V];rfl,?_⟩;rfl
 |some d=>
 refine Wy ?_;by_cases hd:d=0
 . subst hd;have :(iI (some 0)==0)=true:=rfl;have :=qZ;have :=oL fV;refine Wy ?_;refine⟨rfl,_,by simp only[↓zP,zR,seval,V];rfl,?_⟩;rfl
 have T:(iI (some d)==0)=false:=by simp only[iI];split<;>(try split)<;>first|rfl|omega
 refine Wy ?_;apply hK;clear hK K;obtain⟨y,R,Y⟩:=Qe (n:=n) hd;have a7:=Og I.fit X.fit;have x:(DV n d).natAbs<W^16:=by unfold DV;split<;>omega
 have e2:decide (iI (some d)<0)=decide (d<0):=by rw[Bj];simp only[iI];split<;>(try split)<;>omega
 have q1:=HV I (.enc x);have q2:=HV X (.enc x);have D:(rO (some n) (some (DV n d))).1=some (Rat.divInt n d).num:=by simp only[rO];rw[if_neg y,R]
 have v2:(rO (some d) (some (DV n d))).1=some ((Rat.divInt n d).den:Int):=by simp only[rO];rw[if_neg y,Y]
 rw[D] at q1;rw[v2] at q2;have GF:FK (some n) (some d)=some (Rat.divInt n d):=by simp only[FK];rw[if_neg hd]
 rw[GF];have o:=PM (.enc a7);clear D v2 R Y T GF;generalize Rat.divInt n d=r at *;change ∀H,Sg 113 [.agg a,.agg b] H (.ret (.agg (cI (Int.gcd n d)))) H at v;change ∀H,Sg 108 [.agg a,.agg (cI (DV n d))] H (.ret (.agg (cI r.num))) H at q1;change ∀H,Sg 108 [.agg b,.agg (cI (DV n d))] H (.ret (.agg (cI r.den))) H at q2;have M:=qS (k r.num) (k r.den);have h:=qS (k r.num) NP;have Q:cI r.num++cI r.den=cQ r:=rfl;rw[Q] at M;refine cC fun f N=>?_;have P:=Kf (i:=2) N;have S:=Kf (i:=3) N;have l:=Kf (i:=4) N;clear N;refine aP fun K hK=>?_;simp only[↓zP,zG,seval,zI,P,S,U,s,oL la,oL j];refine eI (v _) ?_;simp only[↓zP,zG,seval,zI,E,k,oL NP];apply hK;clear hK K;generalize hX:aB.set _ 3 _=t;have G:=Kx (i:=0) hX;have O:=Kx (i:=1) hX;have Z:=Kx (i:=2) hX;have h3:=Kv (i:=3) hX;clear hX U s q E c;refine cC fun u N=>?_;have a6:=Ks N P;have m:=Ks N S;have p:=Ks N l;have C:=Kf (i:=5) N;clear N P S l f;refine aP fun K hK=>?_
 have key:∀(f:dI) (F:aB),f 2=.ref 0 0->f 3=.ref 1 0->f 4=.ref 2 0->f 5=.ref 3 0->F.get 0=some (.cells a false)->F.get 1=some (.cells b false)->F.get 2=some (.cells HO false)->F.get 3=some (.cells (cI (DV n d)) false)->K f [] F:=by intro f F P S l f5 G O Z h3;apply hK;clear hK K;refine aP fun K hK=>?_;refine Dz ?_;simp only[↓zP,zG,seval,zD,zI,P,f5,G,h3,oL la,oL (k _)];refine gV (q1 _) ?_;simp only[↓zP,zG,seval,zD,zI,S,f5,O,h3,oL j,oL (k _)];refine gV (q2 _) ?_;simp only[↓zP,zG,seval,zD,zI,l,G,O,Z,h3,k,oL fV,M,h,Q];apply hK;clear hK K;refine Tx ?_;refine⟨rfl,_,by simp only[↓zP,zR,seval,l,M];rfl,?_⟩;rfl
 simp only[↓zP,zG,seval,zI,m,O,oL j];refine eI (sg _) ?_;simp only[↓zP,zG,seval,e2];refine⟨fun J=>?_,fun J=>?_⟩
 . have L:DV n d= -(Int.gcd n d:Int):=by unfold DV;rw[if_pos J]
   have ev:AV.agg (cO (wH (some (Int.gcd n d:Int))))=AV.agg (cI (DV n d)):=(by rw[L];rfl);rw[ev] at o;simp only[zG,seval,zI,C,h3,oL (k _)];refine eI (o _) ?_;simp only[↓zP,zG,seval,zI,C,h3,oL (k _)];refine key _ _ ?_ ?_ ?_ ?_ ?_ ?_ ?_ ?_
   . simp only[zB,seval];exact a6
   . simp only[zB,seval];exact m
   . simp only[zB,seval];exact p
   . simp only[zB,seval];exact C
   . simp only[zI,seval,G]
   . simp only[zI,seval,O]
   . simp only[zI,seval,Z]
   simp only[zI,seval]
 have L:DV n d=(Int.gcd n d:Int):=by unfold DV;rw[if_neg J]
 rw[<-L] at h3;refine key _ _ ?_ ?_ ?_ ?_ G O Z h3
 . simp only[zB,seval];exact a6
 . simp only[zB,seval];exact m
 . simp only[zB,seval];exact p
 simp only[zB,seval];exact C
theorem ou(n:Int):FK (some n) (some 1)=some (n:Rat):=by simp only[FK];rw[if_neg A1];exact Al some (Rat.num_divInt_den (n:Rat))
theorem Tg(I:eJ a n)(H:aB):
 Sg 64 [.agg a] H (.ret (.agg (gL (FK n (some 1))))) H:=by
 refine Sp bKz ZaJ Zao ?_ H;unfold W64;dsimp only;have G:=I.len;have mk:=vM I (.enc (z:=1) A1);have E:=oL (cZ (FK n (some 1)));generalize FK n (some 1)=r at *;refine bP ?_;simp only[↓zP,zG,seval,lG];refine fQ ?_;refine Dz ?_;have :=oL G;have :=Vg;have :=oL fV;refine Wz ?_;exact ZaD
variable{z:Int}
theorem fx(G: -2^63<=z)(O:z<2^63)(H:aB):Sg 40 [.int .i64 z] H (.ret (.agg (cQ z))) H:=by refine Sp bKs Zad (by simp only[sf];exact eW (some _)) ?_ H;unfold W40;dsimp only;have s:z.natAbs<W^16:=Bv (show z.natAbs<=2^63 by omega) A1;have a:=Tg (.enc s);rw[ou] at a;change ∀H,Sg 64 [.agg (cI z)] H (.ret (.agg (cQ z))) H at a;have E:=oL (Zg (z:Rat));have :=uP G O;refine Wz ?_;refine⟨rfl,_,by simp only[↓zP,zR,seval,E];rfl,?_⟩;rfl
def mT:Option Rat->Option Rat->Option Rat
 |some x,some y=>FK (oI (oD (some x.num) (some ((y.den:Int).fdiv (Int.gcd x.den y.den)))) (oD (some y.num) (some ((x.den:Int).fdiv (Int.gcd x.den y.den))))) (oD (some ((x.den:Int).fdiv (Int.gcd x.den y.den))) (some (y.den:Int)))
 |_,_=>none
variable{y:Option Rat}{w:List AV}
theorem Ls(J:lA v x)(L:lA w y)(H:aB):Sg 44 [.agg v,.agg w] H (.ret (.agg (gL (mT x y)))) H:=by
 refine Sp bKt ZaP Zao ?_ H;unfold W44;dsimp only;have g1:=lS J;have e:=lS L;have d:=J.len;have lw:=L.len;have k:∀z,(cI z).length=18:=fun z=>cL z;have V:=oL (show Rj.length=36 from cZ none);have ab:∀b A B,gM aC b A B=B:=fun _ _ _=>rfl;refine bP ?_;simp only[↓zP,zG,seval,lG];refine bQ ?_;generalize hX:(((aB.mk 0 .nil).alloc _).alloc _).alloc _=c;have E:c.next=3:=by subst hX;rfl
 have U:=Kv (i:=0) hX;have s:=Kv (i:=1) hX;have a6:=Kv (i:=2) hX;have N:aY c:=by subst hX;exact(((aY.nil _).alloc _).alloc _).alloc _
 clear hX;refine bP ?_;have :=oL d;refine Wz ?_
 cases x with
 |none=>have :=qZ;have :=oL fV;refine Wz ?_;refine⟨rfl,_,by simp only[↓zP,zR,seval,V];rfl,?_⟩;rfl
 |some x=>
 have :=oL lw;refine Wz ?_
 cases y with
 |none=>have :=qZ;have :=oL fV;refine Wz ?_;refine⟨rfl,_,by simp only[↓zP,zR,seval,V];rfl,?_⟩;rfl
 |some y=>
 refine Wz ?_;refine bQ ?_;obtain⟨rfl,D,K⟩:=J.some;obtain⟨rfl,a7,Z⟩:=L.some;have C:=qS (k x.num) (k x.den);have Q:=qS (k y.num) (k y.den);change (cQ x).length=36/\(cQ x).take 18=_/\(cQ x).drop 18=_/\_ at C;change (cQ y).length=36/\(cQ y).take 18=_/\(cQ y).drop 18=_/\_ at Q;have I:eJ (cI x.den) (some (x.den:Int)):=.enc (by simpa using K);have j:eJ (cI y.den) (some (y.den:Int)):=.enc (by simpa using Z);have o:(Int.gcd x.den y.den:Int)≠0:=fun h=>x.den_nz (by have :=(Kq (a:=(x.den:Int)) (b:=(y.den:Int))).1 A0;omega);have ig:eJ (cI (Int.gcd x.den y.den)) (some (Int.gcd x.den y.den:Int)):=.enc (Og I.fit j.fit);have gc:=UO I j;have qp:=HV I ig;have qq:=HV j ig;have v1:(rO (some (x.den:Int)) (some (Int.gcd x.den y.den:Int))).1=some ((x.den:Int).fdiv (Int.gcd x.den y.den)):=by simp only[rO];rw[if_neg o]
 have v2:(rO (some (y.den:Int)) (some (Int.gcd x.den y.den:Int))).1=some ((y.den:Int).fdiv (Int.gcd x.den y.den)):=by simp only[rO];rw[if_neg o]
 have ip:=eJ.aMl (y:=some (Int.gcd x.den y.den:Int)) I;have iq:=eJ.aMl (y:=some (Int.gcd x.den y.den:Int)) j;rw[v1] at qp ip;rw[v2] at qq iq;have n:mT (some x) (some y)=FK (oI (oD (some x.num) (some ((y.den:Int).fdiv (Int.gcd x.den y.den)))) (oD (some y.num) (some ((x.den:Int).fdiv (Int.gcd x.den y.den))))) (oD (some ((x.den:Int).fdiv (Int.gcd x.den y.den))) (some (y.den:Int))):=rfl;rw[n];change ∀H,Sg 113 [.agg (cI x.den),.agg (cI y.den)] H (.ret (.agg (cI (Int.gcd x.den y.den)))) H at gc;clear v1 v2 n;generalize (x.den:Int).fdiv (Int.gcd x.den y.den)=p at *;generalize (y.den:Int).fdiv (Int.gcd x.den y.den)=q at *;generalize (Int.gcd x.den y.den:Int)=g at *;change eJ (cI q) (some q) at iq;change eJ (cI p) (some p) at ip;have R:=xD (.enc D) iq;have Y:=xD (.enc a7) ip;have ad:=xB (eJ.mul (x:=some x.num) (y:=some q)) (eJ.mul (x:=some y.num) (y:=some p));have m3:=xD ip j;have mk:=vM (eJ.add (x:=oD (some x.num) (some q)) (y:=oD (some y.num) (some p))) (eJ.mul (x:=some p) (y:=some (y.den:Int)));have lr:=oL (cZ (FK (oI (oD (some x.num) (some q)) (oD (some y.num) (some p))) (oD (some p) (some (y.den:Int)))));generalize FK (oI (oD (some x.num) (some q)) (oD (some y.num) (some p))) (oD (some p) (some (y.den:Int)))=r at *;refine cC fun f N=>?_;have P:=Kf (i:=2) N;have S:=Kf (i:=3) N;have f4:=Kf (i:=4) N;clear N;refine bP ?_;simp only[↓zP,zJ,seval,P,S,U,s,C,Q,oL (k _)];refine eI (gc _) ?_;simp only[↓zP,zJ,seval,E,k,oL NP];refine bQ ?_;generalize hX:aB.set _ 3 _=t;have G:=Kx (i:=0) hX;have O:=Kx (i:=1) hX;have h2:=Kx (i:=2) hX;have h3:=Kv (i:=3) hX;have X:t.next=4:=by subst hX;simp only[zI,seval,E]
 have W:aY t:=by subst hX;exact(N.alloc _).set (by simp only[zI,seval,E]) _
 clear hX U s a6 E N c;refine cC fun u N=>?_;have l:=Ks N P;have m:=Ks N S;have Rr:=Ks N f4;have XJ:=Kf (i:=5) N;clear N P S f4 f;refine bP ?_;refine fZ 2 A1 W.at2 fun H1 n1 T=>?_;refine Wz ?_;have af:cO (some p)=cI p:=rfl;have ae:cO (some q)=cI q:=rfl;refine Wz ?_;refine bQ ?_;generalize hX:aB.set _ 5 _=F
 replace G:=Kx (i:=0) hX
 replace O:=Kx (i:=1) hX
 replace h2:=Kx (i:=2) hX
 have h4:=Kv (i:=4) hX;have M:=Kv (i:=5) hX;clear hX T n1 X W h3 t H1;refine cC fun f N=>?_;have P:=Ks N l;have S:=Ks N m;have f4:=Ks N Rr;have f6:=Kf (i:=6) N;have f7:=Kf (i:=7) N;clear N l m Rr XJ u;refine bP ?_;refine Dz ?_;have :=oL fV;refine Wz ?_;refine bQ ?_;refine Tx ?_;refine⟨rfl,_,by simp only[↓zP,zR,seval,f4,lr];rfl,?_⟩;rfl
def nX:Option Rat->Option Rat->Option Rat
 |some x,some y=>if tP (x*y) then some (x*y) else none
 |_,_=>none
theorem yk(x y:Rat):(x*y).num=(Rat.divInt x.num y.den).num*(Rat.divInt y.num x.den).num/\(x*y).den=(Rat.divInt x.num y.den).den*(Rat.divInt y.num x.den).den:=by
 have O:((x.den:Nat):Int)≠0:=by have :=x.den_nz;omega
 have Z:((y.den:Nat):Int)≠0:=by have :=y.den_nz;omega
 have e:∀(a:Int) (b:Nat),b≠0->(Rat.divInt a b).num=a / ((a.natAbs.gcd b:Nat):Int)/\(Rat.divInt a b).den=b / a.natAbs.gcd b:=fun a b X=>by rw[Rat.num_divInt,Rat.den_divInt,if_neg A0,Int.sign_eq_one_of_pos A0,Int.one_mul,Cs,Int.gcd_comm];exact⟨rfl,rfl⟩
 obtain⟨a1,c⟩:=e x.num y.den y.den_nz;obtain⟨b1,b2⟩:=e y.num x.den x.den_nz;rw[a1,c,b1,b2];show(Rat.mul x y).num=_/\(Rat.mul x y).den=_;unfold Rat.mul;simp only[Int.divExact_eq_ediv,Nat.divExact_eq_div];exact⟨trivial,Cc _ _⟩
theorem Lt(J:lA v x)(L:lA w y)(H:aB):Sg 81 [.agg v,.agg w] H (.ret (.agg (gL (nX x y)))) H:=by
 refine Sp bLe ZaP Zao ?_ H;unfold W81;dsimp only;have g:=lS J;have e:=lS L;have d:=J.len;have lw:=L.len;have k:∀z,(cI z).length=18:=fun z=>cL z;have V:=oL (show Rj.length=36 from cZ none);have af:∀b A B,gM aC b A B=B:=fun _ _ _=>rfl;refine aP fun K hK=>?_;simp only[↓zP,zG,seval,lG];apply hK;clear hK K;generalize hX:(((aB.mk 0 .nil).alloc _).alloc _).alloc _=c;have E:c.next=3:=by subst hX;rfl
 have U:=Kv (i:=0) hX;have s:=Kv (i:=1) hX;have q:=Kv (i:=2) hX;have N:aY c:=by subst hX;exact(((aY.nil _).alloc _).alloc _).alloc _
 clear hX;refine aP fun K hK=>?_;have :=oL d;refine Wy ?_
 cases x with
 |none=>have :=qZ;have :=oL fV;refine Wy ?_;refine⟨rfl,_,by simp only[↓zP,zR,seval,V];rfl,?_⟩;rfl
 |some x=>
 have :=oL lw;refine Wy ?_
 cases y with
 |none=>have :=qZ;have :=oL fV;refine Wy ?_;refine⟨rfl,_,by simp only[↓zP,zR,seval,V];rfl,?_⟩;rfl
 |some y=>
 refine Wy ?_;apply hK;clear hK K;obtain⟨rfl,D,ae⟩:=J.some;obtain⟨rfl,r,Z⟩:=L.some;have C:=qS (k x.num) (k x.den);have Q:=qS (k y.num) (k y.den);change (cQ x).length=36/\(cQ x).take 18=_/\(cQ x).drop 18=_/\_ at C;change (cQ y).length=36/\(cQ y).take 18=_/\(cQ y).drop 18=_/\_ at Q;have dx:((x.den:Nat):Int)≠0:=by have :=x.den_nz;omega
 have dy:((y.den:Nat):Int)≠0:=by have :=y.den_nz;omega
 have I:eJ (cI x.den) (some (x.den:Int)):=.enc (by simpa using ae);have a7:eJ (cI y.den) (some (y.den:Int)):=.enc (by simpa using Z);have k1:=vM (.enc D) a7;have k2:=vM (.enc r) I;have r1:FK (some x.num) (some (y.den:Int))=some (Rat.divInt x.num y.den):=by simp only[FK];rw[if_neg dy]
 have r2:FK (some y.num) (some (x.den:Int))=some (Rat.divInt y.num x.den):=by simp only[FK];rw[if_neg dx]
 have u:=dw dy D a7.fit;have P:=dw dx r I.fit;obtain⟨t1,t2⟩:=yk x y;rw[r1] at k1;rw[r2] at k2
 have n:nX (some x) (some y)=if tP (x*y) then some (x*y) else none:=rfl
 rw[n];clear r1 r2 n;generalize Rat.divInt x.num y.den=a at *;generalize Rat.divInt y.num x.den=b at *;generalize x*y=z at *;generalize S:(if tP z then some z else none)=zr at *;change ∀H,Sg 106 [.agg (cI x.num),.agg (cI y.den)] H (.ret (.agg (cQ a))) H at k1;change ∀H,Sg 106 [.agg (cI y.num),.agg (cI x.den)] H (.ret (.agg (cQ b))) H at k2;have G:=qS (k a.num) (k a.den);have lb:=qS (k b.num) (k b.den);change (cQ a).length=36/\(cQ a).take 18=_/\(cQ a).drop 18=_/\(cQ a).take 36=cQ a/\(cQ a).drop 36=_ at G;change (cQ b).length=36/\(cQ b).take 18=_/\(cQ b).drop 18=_/\(cQ b).take 36=cQ b/\(cQ b).drop 36=_ at lb;have R:=xD (.enc u.1) (.enc P.1);have Y:=xD (.enc (z:=(a.den:Int)) (by simpa using u.2)) (.enc (z:=(b.den:Int)) (by simpa using P.2));have n1:oD (some a.num) (some b.num)=norm z.num:=by rw[t1];rfl
 have n2:oD (some (a.den:Int)) (some (b.den:Int))=norm (z.den:Int):=by rw[t2,Int.natCast_mul];rfl
 rw[n1] at R;rw[n2] at Y;have lo:∀x,(cO x).length=18:=fun x=>mG x;clear n1 n2 t1 t2;refine cC fun f N=>?_;have l:=Kf (i:=2) N;have m:=Kf (i:=3) N;have p:=Kf (i:=4) N;clear N;refine aP fun K hK=>?_;refine fZ 2 A1 (aY.at2 (by assumption)) fun H1 a6 T=>?_;simp only[↓zP,zG,seval,zD,zI,l,m,T,U,s,E,C,Q,oL (k _)];refine gV (k1 _) ?_;simp only[↓zP,zG,seval,zD,zI,l,m,T,U,s,C,Q,oL (k _)];refine gV (k2 _) ?_;simp only[↓zP,zG,seval,zD,zI,T,G,lb];apply hK;clear hK K;have O:aY H1:=fun j hj=>by rw[T];exact N j A0
 generalize hX:aB.set _ 4 (.cells (cQ b) false)=t;have h2:=Kx (i:=2) hX;have h3:=Kv (i:=3) hX;have h4:=Kv (i:=4) hX;have ad:t.next=5:=by subst hX;simp only[zI,seval,a6,E]
 have ab:aY t:=by subst hX;refine(((O.set ?_ _).set ?_ _).set ?_ _).set ?_ _<;>simp only[zI,seval,a6,E]
 clear hX T a6 N O U s q E c H1;refine cC fun f' N=>?_;have k4:=Ks N p;have k5:=Kf (i:=5) N;have k6:=Kf (i:=6) N;clear N l m p f;refine aP fun K hK=>?_;refine fZ 2 A1 ab.at2 fun H1 a6 T=>?_;have :=oL NP;refine Wy ?_;apply hK;clear hK K;generalize hX:aB.set _ 6 (.cells (cO (norm (z.den:Int))) false)=F
 replace h2:=Kx (i:=2) hX
 have M:=Kv (i:=5) hX;have h6:=Kv (i:=6) hX;clear hX T a6 ab h3 h4 ad t H1;refine cC fun f N=>?_;have j4:=Ks N k4;have j7:=Kf (i:=7) N;have j8:=Kf (i:=8) N;clear N k4 k5 k6 f';refine aP fun K hK=>?_;by_cases c1:z.num.natAbs<W^16
 . have T:norm z.num=some z.num:=by unfold norm;rw[if_pos c1]
   rw[T] at M;have z0:(cO (some z.num)).getD 0 aC=.bool false:=rfl;by_cases X:z.den<W^16
   . have o:norm (z.den:Int)=some (z.den:Int):=(by unfold norm;rw[if_pos (by simpa using X)]);rw[o] at h6;have z1:(cO (some (z.den:Int))).getD 0 aC=.bool false:=rfl;rw[if_pos (show tP z from ⟨c1,X⟩)] at S;have c0:∀x:Int,cO (some x)=cI x:=fun _=>rfl;have r1:=qS (k z.num) NP;have r2:=qS (k z.num) (k z.den);have r3:cI z.num++cI z.den=cQ z:=rfl;have r4:=oL (Zg z);rw[r3] at r2;refine Wy ?_;apply hK;clear hK K;have :=oL fV;refine Wz ?_;refine⟨rfl,_,by simp only[↓zP,zR,seval,j4,r4];rfl,?_⟩;rw[<-S];rfl
   have o:norm (z.den:Int)=none:=(by unfold norm;rw[if_neg (by simpa using X)]);rw[o] at h6;have z1:(cO none).getD 0 aC=.bool true:=rfl;rw[if_neg (show ¬tP z from fun h=>X h.2)] at S;have :=qZ;exact ZbD
 have T:norm z.num=none:=by unfold norm;rw[if_neg c1]
 rw[T] at M;have z0:(cO none).getD 0 aC=.bool true:=rfl;rw[if_neg (show ¬tP z from fun h=>c1 h.1)] at S;have :=qZ;have :=oL fV;exact ZbD
theorem lA.mul:lA (gL (nX x y)) (nX x y):=by
 cases x with
 |none=>exact .bad
 |some x=>cases y with
  |none=>exact .bad
  |some y=>
   simp only[nX];split
   . rename_i h;exact .enc h
   exact .bad
theorem lA.add(J:lA v x)(L:lA w y):lA (gL (mT x y)) (mT x y):=by
 cases x with
 |none=>exact .bad
 |some x=>cases y with
  |none=>exact .bad
  |some y=>exact lA.mk .add .mul
def sK(a b:Int):Int:=if a<b then -1 else if b<a then 1 else 0
def OI:Option Rat->Option Rat->Int
 |some x,some y=>sK (x.num*y.den) (y.num*x.den)
 |none,none=>0
 |none,_=> -1
 |_,none=>1
theorem Zj(a b:Int): -1<=sK a b/\sK a b<=1:=by grind[sK]
theorem uu{n1 p n2 q:Int}(O:0<p)(Z:0<q):
 (n1.fdiv p≠n2.fdiv q->sK (n1*q) (n2*p)=sK (n1.fdiv p) (n2.fdiv q))/\
 (n1.fdiv p=n2.fdiv q->sK (n1*q) (n2*p)=sK (n1.fmod p*q) (n2.fmod q*p))/\0<=n1.fmod p/\n1.fmod p<p/\0<=n2.fmod q/\n2.fmod q<q:=by
 have T:=Int.fmod_add_mul_fdiv n1 p;have o:=Int.fmod_add_mul_fdiv n2 q;have a1:=Int.fmod_nonneg_of_pos n1 O;have y:=Int.fmod_nonneg_of_pos n2 Z;have b1:=Int.fmod_lt_of_pos n1 O;have b2:=Int.fmod_lt_of_pos n2 Z;generalize n1.fdiv p=q1 at *;generalize n2.fdiv q=q2 at *;generalize n1.fmod p=r1 at *;generalize n2.fmod q=r2 at *;have u:n1*q=r1*q+q1*(p*q):=by rw[<-T,Int.add_mul,Iw p q1,Int.mul_assoc]
 have P:n2*p=r2*p+q2*(p*q):=by grind
 have m:0<=r1*q/\r1*q<p*q:=⟨Fk a1 A0,Eu b1 Z⟩;have j:0<=r2*p/\r2*p<p*q:=⟨Fk y A0,by rw[Iw p q];exact Eu b2 O⟩;generalize p*q=D at *;refine⟨fun h=>?_,fun h=>?_,a1,b1,y,b2⟩
 . unfold sK
   rcases Jb h with h|h
   . have :(q1+1)*D<=q2*D:=Int.mul_le_mul_of_nonneg_right A0 A0
     grind
   have :(q2+1)*D<=q1*D:=Int.mul_le_mul_of_nonneg_right A0 A0
   grind
 grind[sK]
theorem aDk(a b c d:Int):sK (a*d) (c*b)= -sK (b*c) (d*a):=by grind[sK]
theorem aPo(J:lA v x)(L:lA w y)(H:aB):Sg 42 [.agg v,.agg w] H (.ret (.int .i64 (OI x y))) H:=by
 refine So bQu ZaP ?_ H;unfold W42;dsimp only;have g1:=lS J;have e:=lS L;have d:=J.len;have Q:=L.len;have k:∀z,(cI z).length=18:=fun z=>cL z;have aO:∀b A B,gM aC b A B=B:=fun _ _ _=>rfl;refine bP ?_;refine Tz ?_;refine fQ ?_;refine Dz ?_;have :=oL d;have :=oL Q;refine Wz ?_;refine bQ ?_;refine aP fun K hK=>?_;refine aM ?_
 cases x with
 |none=>
  cases y<;>
  . refine Wy ?_;exact Zaa
 |some x=>cases y with
  |none=>refine Wy ?_;exact⟨rfl,_,by simp only[↓zP,zR,seval];rfl,rfl⟩
  |some y=>
   refine Wy ?_;apply hK;clear hK K;obtain⟨rfl,ay,ar⟩:=J.some;obtain⟨rfl,r,Z⟩:=L.some;have X:(0:Int)<x.den:=(by have :=x.den_nz;omega);have dy:(0:Int)<y.den:=(by have :=y.den_nz;omega);simp only[OI];generalize hX:((aB.mk 0 .nil).alloc _).alloc _=c;have G:c.get 0=some (.cells (cI x.num++cI x.den) false):=(by subst hX;simp only[zI,seval];rfl);have O:c.get 1=some (.cells (cI y.num++cI y.den) false):=(by subst hX;simp only[zI,seval];rfl);clear hX;have aq:(x.den:Int).natAbs<W^16:=(by simpa using ar);have an:(y.den:Int).natAbs<W^16:=(by simpa using Z);generalize (x.den:Int)=p at *;generalize (y.den:Int)=q at *;generalize x.num=n1 at *;generalize y.num=n2 at *;generalize u:sK (n1*q) (n2*p)=C at *;refine cC fun f N=>?_;have P:=Kf (i:=2) N;have S:=Kf (i:=3) N;clear N;refine bP ?_;refine Tz ?_;refine fQ ?_;refine Tx ?_;refine bQ ?_;refine aP fun K hK=>?_
   refine aM (jW [7] (fun m vs H'=>∃n1 p n2 q s:Int,vs=[.int .i64 s]/\m=p.natAbs/\0<p/\0<q/\n1.natAbs<W^16/\n2.natAbs<W^16/\p.natAbs<W^16/\q.natAbs<W^16/\(s=1\/s= -1)/\C=s*sK (n1*q) (n2*p)/\
    H'.get 0=some (.cells (cI n1++cI p) false)/\H'.get 1=some (.cells (cI n2++cI q) false)) p.natAbs (by rfl) ?_ ?_)
   . exact⟨n1,p,n2,q,1,by simp only[sm,zB,seval],rfl,X,dy,ay,r,aq,an,.inl rfl,by rw[u];omega,G,O⟩
   clear u G O ay r aq an X dy g1 e J L d Q ar Z;rintro m f' H1 E ⟨n1,p,n2,q,s,I,rfl,p1,p2,k1,k2,k3,k4,M,u,G,O⟩;simp only[zM] at I;have T:f' 2=.ref 0 0:=(by rw[E 2 rfl];simp only[zB,seval];exact P);have j3:f' 3=.ref 1 0:=(by rw[E 3 rfl];simp only[zB,seval];exact S);obtain⟨r1,r2,r3,r4,r5,r6⟩:=uu (n1:=n1) (n2:=n2) p1 p2;refine aM ?_
   have l:∀V:dI,V 7=.int .i64 C->∀H2,K V [] H2:=by intro V q7 H2;apply hK;clear hK K;refine Wz ?_;refine Rx ?_;rfl
   clear hK;have c0:∀x:Int,cO (some x)=cI x:=fun _=>rfl;have i1:eJ (cI n1) (some n1):=.enc k1;have i2:eJ (cI p) (some p):=.enc k3;have i3:eJ (cI n2) (some n2):=.enc k2;have i4:eJ (cI q) (some q):=.enc k4;have u1:rO (some n1) (some p)=(some (n1.fdiv p),some (n1.fmod p)):=(by simp only[rO];rw[if_neg A0]);have j:rO (some n2) (some q)=(some (n2.fdiv q),some (n2.fmod q)):=(by simp only[rO];rw[if_neg A0]);have q1:=HV i1 i2;have q2:=HV i3 i4;have R:=ZV i1 i2;have m2:=ZV i3 i4;have ad:=eJ.aMl (y:=some p) i1;have ab:=eJ.aMl (y:=some q) i3;have a7:=eJ.bDx (x:=some n1) i2;have a6:=eJ.bDx (x:=some n2) i4;rw[u1] at q1 R ad a7;rw[j] at q2 m2 ab a6;have cm:=HR ad ab;have ak:=tR a7;have aj:=tR a6;have ec:mH (some (n1.fdiv p)) (some (n2.fdiv q))=sK (n1.fdiv p) (n2.fdiv q):=rfl;have af:=qS (k n1) (k p);have ae:=qS (k n2) (k q)
   have wm:∀t:Int,-1<=t->t<=1->IntKind.i64.wrap (s*t)=s*t:=fun t a b=>by
    rcases M with rfl|rfl
    . rw[Int.one_mul];exact wrap_i64 A0 A0
    rw[Int.neg_one_mul];exact wrap_i64 A0 A0
   obtain⟨aE,aA⟩:=Zj (n1.fdiv p) (n2.fdiv q);refine aP fun K2 dJ=>?_;refine bP ?_;refine Dz ?_;simp only[↓zP,zJ,seval,zD,T,G,af,oL (k _)];refine gV (q1 _) ?_;simp only[↓zP,zJ,seval,zD,j3,O,ae,oL (k _)];refine gV (q2 _) ?_;simp only[seval];refine gV (cm _) ?_;simp only[↓zP,zJ,seval,zD,ec];refine bQ ?_;by_cases D:n1.fdiv p=n2.fdiv q
   . have Y:(sK (n1.fdiv p) (n2.fdiv q) != 0)=false:=(by rw[D];unfold sK;simp);simp only[↓zP,zG,seval,Y];apply dJ;clear dJ K2 r1
     replace r2:=r2 D
     clear D Y q1 q2 cm ec ad ab u1 j aE aA;generalize aN:n1.fmod p=r1 at *;generalize bx:n2.fmod q=F at *;rw[c0] at a7 a6;simp only[c0] at ak aj;have GX:=qS (k p) (k r1);have OQ:=qS (k q) (k F);have aK:=qS (k p) NP;have aF:=qS (k q) NP;refine bP ?_;refine Dz ?_;simp only[↓zP,zJ,seval,zD,T,G,af,oL (k _)];refine gV (R _) ?_;simp only[↓zP,zJ,seval,zD,j3,O,ae,oL (k _),c0,aK];refine gV (m2 _) ?_;simp only[↓zP,zJ,seval,zD,T,j3,G,O,af,ae,oL (k _),c0,aF,GX,OQ];refine bQ ?_;generalize hX:(H1.set 0 _).set 1 _=HB;have b0:=Kv (i:=0) hX;have b1:=Kv (i:=1) hX;clear hX G O;refine cC fun g N=>?_;have e:=Ks N T;have U:=Ks N j3;have o:=Ks N I;clear N;refine bP ?_;refine Dz ?_;simp only[↓zP,zJ,seval,zD,e,b0,GX,oL (k _)];refine gV (ak _) ?_;simp only[↓zP,zJ,seval,zD,U,b1,OQ,oL (k _)];refine gV (aj _) ?_;simp only[↓zP,zJ,seval,zD];refine bQ ?_;refine aP fun K2 dJ=>?_;by_cases n:r1=0
     . have ag:iI (some r1)=0:=by rw[n];rfl
       have e3:s*(0 -iI (some F))=s*sK (r1*q) (F*p):=by
        congr 1;rw[n,Js];simp only[iI,sK];by_cases z2:F=0
        . rw[z2];simp
        have :=En (show 0<F by omega) p1;rw[if_neg A0,if_neg z2,if_pos this];rfl
       have e4: -1<=0 -iI (some F)/\0 -iI (some F)<=1:=(by simp only[iI];split<;>(try split)<;>omega);have w1:IntKind.i64.wrap (0 -iI (some F))=0 -iI (some F):=wrap_i64 A0 A0;have w2:=wm _ e4.1 e4.2;simp only[↓zP,zG,seval,ag,o,w1,w2,show((0:Int)==0)=true from rfl];refine l _ ?_ _;simp only[zB,seval];rw[e3,u,r2]
     have ag:iI (some r1)=1:=(by simp only[iI];rw[if_neg A0,if_neg n]);by_cases z2:F=0
     . have az:iI (some F)=0:=by rw[z2];rfl
       have e3:s*(1 -0)=s*sK (r1*q) (F*p):=by congr 1;rw[z2,Js];have :=En (show 0<r1 by omega) p2;simp only[sK];rw[if_neg A0,if_pos this];rfl
       have w2:=wm 1 A0 A0;simp only[↓zP,zG,seval,ag,az,o,show((1:Int)==0)=false from rfl,show((0:Int)==0)=true from rfl,show IntKind.i64.wrap 1=1 from rfl,w2];refine l _ ?_ _;simp only[zB,seval];rw[u,r2,<-e3];rfl
     have az:iI (some F)=1:=(by simp only[iI];rw[if_neg A0,if_neg z2]);have w2:IntKind.i64.wrap (-s)= -s:=wrap_i64 A0 A0;have w3:IntKind.i64.wrap (0 -s)= -s:=wI A0;refine Wx ?_;apply dJ;clear dJ K2;simp only[↓zP,zJ,seval,o,w3];refine⟨r1.natAbs,by omega,p,r1,q,F,-s,rfl,rfl,by omega,by omega,k3,k4,a7.fit,a6.fit,by omega,?_,b0,b1⟩;rw[u,r2,aDk r1 p F q,Kl,Hu]
   have Y:(sK (n1.fdiv p) (n2.fdiv q) != 0)=true:=by
    unfold sK
    rcases Jb D with h|h
    . rw[if_pos h];rfl
    rw[if_neg A0,if_pos h];rfl
   have wv:=wm _ aE aA;simp only[↓zP,zG,seval,Y,I,wv];refine l _ ?_ _;simp only[zB,seval];rw[u,r1 D]
theorem bCt{c:Nat->List AV}(h:∀i,i<3->(c i).length=36):(c3 c).length=108:=by simp[c3,h 0 A1,h 1 A1,h 2 A1]
def IsW(v:List AV)(x:Nat->Option Rat):Prop:=∃c,v=c3 c/\∀i,i<3->lA (c i) (x i)
variable{x:Nat->Option Rat}
theorem IsW.len(h:IsW v x):v.length=108:=by obtain⟨c,rfl,R⟩:=h;exact bCt fun i F=>(R i F).len
theorem IsW.free(h:IsW v x):cP v=true:=by obtain⟨c,rfl,R⟩:=h;exact lB fun i F=>(R i F).free
def sQ(x y:Nat->Option Rat):Nat->Option Rat
 |0=>some ((0:Int):Rat)
 |i+1=>mT (sQ x y i) (nX (x i) (y i))
theorem lA.int(G: -2^63<=z)(O:z<2^63):lA (cQ z) (Option.some (z:Rat)):=
 .enc ⟨Bv (show z.natAbs<=2^63 by omega) A1,show(1:Nat)<W^16 by decide⟩
theorem lA.sQ(x y:Nat->Option Rat):∀i,lA (gL (sQ x y i)) (sQ x y i)
 |0=>.int (z:=0) A1 A1
 |i+1=>.add (.sQ x y i) .mul
end Go.Proofs.YtogfcjbgeebfkaaGreatDoor
namespace Go.Proofs.YtogfcjbgeebfkaaGreatDoor
open Go Go.Av Go.iW Go.aH
attribute [local congr] aZ aQ aR aL bD aU aS aG bE
attribute [local irreducible] FC bS eE
def wK{α:Type}(x:α->Option Int)(T:List α):Option Int:=T.foldl (fun s t=>oI s (x t)) (some 0)
theorem FW{α:Type}(x:α->Option Int)(T:List α)(t:α):wK x (T++[t])=oI (wK x T) (x t):=by simp[wK]
theorem eJ.wK{α:Type}(x:α->Option Int)(T:List α):eJ (cO (wK x T)) (wK x T):=by
 rcases List.eq_nil_or_concat T with rfl|⟨j,t,rfl⟩
 . exact .enc A1
 rw[List.concat_eq_append,FW];exact .add
variable{l:List aH.V}{M:Nat}
theorem Yq(U:∀v∈l,bT M v)(g:M<=2^18){t:Nat×Nat×Nat}(O:t.1<l.length)(Z:t.2.1<l.length)(B:t.2.2<l.length):(sE l t).natAbs<=2^60:=by
 have a:∀k,k<l.length->bT M (nK l k):=fun k E=>by
  have :nK l k=l[k]:=by simp[nK,List.getD,E]
  rw[this];exact U _ (Ag E)
 have :=nR (iM (a _ O) (a _ Z)) (a _ B);have j:M*M<=2^18*2^18:=Az g g;have b:2*(M*M)*M<=2^37*2^18:=Az A0 g;show(dot (bC _ _) _).natAbs<=_;omega
theorem YH{H H':aB}(h:Over H H'){r:Nat}{o:eS}(V:H.get r=some o)(A:r<H.next):H'.get r=some o:=(h.same r A).trans V
def IV(l:List aH.V)(r:Nat)(T:List (Nat×Nat×Nat))(H:aB):Prop:=r<H.next/\H.get r=some (.cells (cO (wK (fun t=>some (sE l t)) T)) false)
theorem aJu(U:∀v∈l,bT M v)(g:M<=2^18)(r:Nat):aCa l 139 r (IV l r):=by
 intro T t H O Z B j a ⟨_,hI⟩;have hd:eJ (cI (sE l t)) (some (sE l t)):=.enc (Bv (Yq U g O Z B) A1);have C:=xB (eJ.wK (fun t=>some (sE l t)) T) hd;rw[<-FW] at C;have lo:∀x,(cO x).length=18:=fun x=>mG x;have d:(EL l t).length=9:=rfl;have b:=cL (sE l t);generalize i:wK (fun t=>some (sE l t)) (T++[t])=E at *;generalize wK (fun t=>some (sE l t)) T=D at *
 obtain⟨_,H',⟨rfl,h⟩,w⟩:=bZ (R:=fun o H'=>o=.ret (nJ [])/\(H'.get r=some (.cells (cO E) false)/\NU H H' r/\aY H')) fit aSb (args:=[.agg (cI (sE l t)),.agg (EL l t),.ref r 0]) (H:=H) (Ab rfl) (by
  unfold aKp;dsimp only;refine bP ?_;refine Tz ?_;refine bQ ?_;generalize hX:(aB.alloc _ _).alloc _=c;have e:c.get H.next=some (.cells (cI (sE l t)) false):=by subst hX;rw[aB.aJ,if_neg A3,aB.aJ,if_pos rfl]
  have f:c.get r=some (.cells (cO D) false):=by subst hX;rw[aB.aJ,if_neg Zag,aB.aJ,if_neg A0];exact hI
  have K:Over H c:=by subst hX;exact((Over.refl H).alloc _).alloc _
  have W:aY c:=by subst hX;exact(a.alloc _).alloc _
  clear hX;simp only[↓zP,zJ,seval,e,f,lo,oL (lo _),b,oL b];refine eI (C _) ?_;simp only[↓zP,zJ,seval,f,lo,oL (lo _)]
  exact⟨rfl,[],rfl,rfl,by rw[aB.aD,if_pos rfl],(NU.of K).set _,W.set (by have :=K.le;omega) _⟩)
 exact⟨H',w,⟨by have :=h.2.1.1;omega,by rw[i];exact h.1⟩,h.2.1,h.2.2⟩
def CM(S:List (aH.V×Int))(L:aH.V×Int->List Nat):List (Nat×Nat×Nat):=S.flatMap fun q=>kZ (L q)
def aJt(l:List aH.V)(S:List (aH.V×Int))(L:aH.V×Int->List Nat):Option Int:=wK (fun t=>some (sE l t)) (CM S L)
theorem ZZ{tag:Nat}(W:Nat.blt tag 2=true){l:List aH.V}{M:Nat}(U:∀v∈l,bT M v)(g:M<=2^18)(Q:l.length<=64){S:List (aH.V×Int)}{L:aH.V×Int->List Nat}(w:wB l S L)(s:S≠[])(h:MN (nK l) l.length)(H:aB):
 Sg 58 [.agg [.bK tag 3 (bU l)]] H (.ret (.agg (cO (aJt l S L)))) H:=by
 refine So bKy Zav ?_ H;unfold W58;dsimp only;have t:=uP (z:=0) A1 A1;have m:=cL 0;have lo:∀x,(cO x).length=18:=fun x=>mG x;refine bP ?_;refine Tz ?_;refine fQ ?_;have :=oL NP;refine Wz ?_;refine bQ ?_;generalize hX:aB.set _ 2 _=c;have D:=Kv (i:=0) hX;have a1:=Kv (i:=1) hX;have y:=Kv (i:=2) hX;have a:c.next=3:=by subst hX;rfl
 have k:aY c:=by subst hX;exact((((aY.nil _).alloc _).alloc _).alloc _).set (by simp only[zI,seval]) _
 clear hX;obtain⟨_,e,⟨rfl,b,J,N⟩,f⟩:=Yo W U g Q w s h (IV l 2) (fun T H H' j ⟨O,Z⟩=>⟨Au O j.le,YH j Z O⟩) (aJu U g 2) (H0:=c) A0 ⟨by omega,y⟩ k;have b1:=(J.2 1 A0 A0).trans a1;refine bP ?_;refine Wz ?_;refine bQ ?_;have d:e.get 2=some (.cells (cO (aJt l S L)) false):=b.2;generalize aJt l S L=x at *;simp only[↓zP,zJ,seval,d,b1,lo,oL (lo _),oL NP];refine⟨rfl,_,by simp only[↓zP,zR,seval,lo,oL (lo _)];rfl,?_⟩;rfl
end Go.Proofs.YtogfcjbgeebfkaaGreatDoor
namespace Go.Proofs.YtogfcjbgeebfkaaGreatDoor
open Go Go.Av Go.iW
attribute [local congr] aZ aQ aR aL bD aU aS aG bE
attribute [local irreducible] FC bS eE

end Go.Proofs.YtogfcjbgeebfkaaGreatDoor
namespace Go.Proofs.YtogfcjbgeebfkaaGreatDoor
open Go Go.Av Go.iW Go.aH
attribute [local congr] aZ aQ aR aL bD aU aS aG bE
attribute [local irreducible] FC bS eE
def sI(l:List aH.V)(t:Nat×Nat×Nat)(i:Nat):Int:=(nK l t.1).at i+(nK l t.2.1).at i+(nK l t.2.2).at i
def bRw(l:List aH.V)(i:Nat)(T:List (Nat×Nat×Nat)):Option Int:=wK (fun t=>oD (some (sE l t)) (some (sI l t i))) T
variable{M:Nat}
theorem VS{v:aH.V}(h:bT M v)(i:Nat):(v.at i).natAbs<=M:=by obtain⟨O,Z,B⟩:=h;unfold aH.V.at;grind
theorem aJk(l:List aH.V)(t:Nat×Nat×Nat){i:Nat}(F:i<3):(EL l t).getD i aC=.int .i64 ((nK l t.1).at i)/\(EL l t).getD (3+i) aC=.int .i64 ((nK l t.2.1).at i)/\(EL l t).getD (6+i) aC=.int .i64 ((nK l t.2.2).at i):=by
 match i,F with
 |0,_=>exact⟨rfl,rfl,rfl⟩
 |1,_=>exact⟨rfl,rfl,rfl⟩
 |2,_=>exact⟨rfl,rfl,rfl⟩
def bNo(l:List aH.V)(S:List (aH.V×Int))(L:aH.V×Int->List Nat)(i:Nat):Option Rat:=FK (bRw l i (CM S L)) (oD (some 4) (aJt l S L))
def cN:Nat->(Nat->List AV)->List AV
 |0,_=>[]
 |n+1,c=>cN n c++c n
theorem MY{m:Nat}:∀{n:Nat} {c:Nat->List AV},(∀i,i<n->(c i).length=m)->(cN n c).length=n*m
 |0,_,_=>by simp[cN]
 |n+1,c,h=>by rw[cN,Aq,MY fun i F=>h i A0,h n A0,Cy]
theorem MX{m:Nat}:∀{n:Nat} {c:Nat->List AV},(∀i,i<n->(c i).length=m)->∀{i:Nat},i<n->((cN n c).drop (i*m)).take m=c i
 |0,_,_,i,F=>absurd F (Am _)
 |n+1,c,h,i,F=>by
  have M:∀i,i<n->(c i).length=m:=fun i F=>h i A0;have U:=MY M;rw[cN];by_cases y:i<n
  . have O:i*m+m<=n*m:=by rw[<-Cy];exact Bc _ y
    rw[Em A0,Ck (by grind)];exact MX M y
  grind
theorem aDf{m:Nat}:∀{n:Nat} {c:Nat->List AV},(∀i,i<n->(c i).length=m)->∀{i:Nat},i<n->∀{x:List AV},x.length=m->(cN n c).take (i*m)++x++(cN n c).drop (i*m+m)=cN n (fun j=>if j=i then x else c j)
 |0,_,_,i,F,_,_=>absurd F (Am _)
 |n+1,c,h,i,F,x,hx=>by
  have M:∀i,i<n->(c i).length=m:=fun i F=>h i A0;have U:=MY M;rw[cN,cN];by_cases y:i<n
  . have O:i*m+m<=n*m:=by rw[<-Cy];exact Bc _ y
    rw[Ck A0,Em A0,<-Di,aDf M y hx,if_neg A0]
  have e:i=n:=by omega
  subst e
  have R:cN i (fun j=>if j=i then x else c j)=cN i c:=by
   have :∀n,n<=i->cN n (fun j=>if j=i then x else c j)=cN n c:=fun n=>by
    induction n with
    |zero=>intro _;rfl
    |succ n K=>intro A;rw[cN,cN,K A0,if_neg A0]
   exact this i (Ad _)
  rw[R,if_pos rfl,<-U,List.take_left,Bl (by rw[Aq,h i A0,U];omega),Bx]
theorem PZ{c d:Nat->List AV}:∀{n:Nat},(∀i,i<n->c i=d i)->cN n c=cN n d
 |0,_=>rfl
 |n+1,h=>by rw[cN,cN,PZ fun i F=>h i A0,h n A0]
def vj(l:List aH.V)(t:Nat×Nat×Nat):Nat->aH.V
 |0=>nK l t.1
 |1=>nK l t.2.1
 |_=>nK l t.2.2
def qI(l:List aH.V)(t:Nat×Nat×Nat)(i k:Nat):Nat->Int
 |0=>sI l t i*sI l t k
 |j+1=>qI l t i k j+(vj l t j).at i*(vj l t j).at k
def GK(l:List aH.V)(p:Nat)(T:List (Nat×Nat×Nat)):Option Int:=wK (fun t=>oD (some (sE l t)) (some (qI l t (p / 3) (p%3) 3))) T
def II(l:List aH.V)(r:Nat)(T:List (Nat×Nat×Nat))(H:aB):Prop:=r<H.next/\H.get r=some (.cells (cN 9 fun p=>cO (GK l p T)) false)
theorem aFn{l:List aH.V}(hl:∀v∈l,bT M v)(hM:M<=2^18)(r:Nat):aCa l 164 r (II l r):=by
 intro T t H O Z h3 hr az ⟨_,hI⟩
 have vn:∀k,k<l.length->bT M (nK l k):=fun k E=>by
  have :nK l k=l[k]:=by simp[nK,List.getD,E]
  rw[this];exact hl _ (Ag E)
 have hd:eJ (cI (sE l t)) (some (sE l t)):=.enc (Bv (Yq hl hM O Z h3) A1);have lo:∀x,(cO x).length=18:=fun x=>mG x;have l9:(EL l t).length=9:=rfl;have b:=cL (sE l t);have a7:=fun i F=>aJk l t (i:=i) F
 have va:∀i,((nK l t.1).at i).natAbs<=2^18/\((nK l t.2.1).at i).natAbs<=2^18/\((nK l t.2.2).at i).natAbs<=2^18:=fun i=>by have a1:=VS (vn _ O) i;have a2:=VS (vn _ Z) i;have Q:=VS (vn _ h3) i;refine⟨?_,?_,?_⟩<;>omega
 have vb:∀j i,((vj l t j).at i).natAbs<=2^18:=fun j i=>by
  unfold vj;split
  . exact(va i).1
  . exact(va i).2.1
  exact(va i).2.2
 have sb:∀i,(sI l t i).natAbs<=3*2^18:=fun i=>by have :=va i;unfold sI;omega
 have mb:∀{x y:Int} {A B:Nat},x.natAbs<=A->y.natAbs<=B->(x*y).natAbs<=A*B:=fun h k=>by rw[Ew];exact Az h k
 have pb:∀i k j,((vj l t j).at i*(vj l t j).at k).natAbs<=2^36:=fun i k j=>Aw (mb (vb j i) (vb j k)) A1
 have qb:∀i k j,(qI l t i k j).natAbs<=(9+j)*2^36:=fun i k j=>by
  induction j with
  |zero=>exact Aw (mb (sb i) (sb k)) A1
  |succ j ih=>have :=pb i k j;unfold qI;omega
 have ak:∀j,j<3->((EL l t).drop (j*3)).take 3=cS (vj l t j):=fun j hj=>by
  match j,hj with
  |0,_=>rfl
  |1,_=>rfl
  |2,_=>rfl
 have an:∀p,GK l p (T++[t])=oI (GK l p T) (oD (some (sE l t)) (some (qI l t (p / 3) (p%3) 3))):=fun p=>FW _ _ _;have aq:∀p T,eJ (cO (GK l p T)) (GK l p T):=fun p T=>eJ.wK _ _
 obtain⟨_,H',⟨rfl,h⟩,w⟩:=bZ (R:=fun o H'=>o=.ret (nJ [])/\(H'.get r=some (.cells (cN 9 fun p=>cO (GK l p (T++[t]))) false)/\NU H H' r/\aY H')) fit aSd (args:=[.agg (cI (sE l t)),.agg (EL l t),.ref r 0]) (H:=H) (Ab rfl) (by
  unfold aKr;dsimp only;refine bP ?_;refine Tz ?_;refine bQ ?_;generalize hX:(aB.alloc _ _).alloc _=c;have D:c.get H.next=some (.cells (cI (sE l t)) false):=by subst hX;rw[aB.aJ,if_neg A3,aB.aJ,if_pos rfl]
  have a1:c.get (H.next+1)=some (.cells (EL l t) false):=by subst hX;rw[aB.aJ,if_pos A3]
  have ar:c.get r=some (.cells (cN 9 fun p=>cO (GK l p T)) false):=by subst hX;rw[aB.aJ,if_neg Zag,aB.aJ,if_neg A0];exact hI
  have aO:Over H c:=by subst hX;exact((Over.refl H).alloc _).alloc _
  have aF:aY c:=by subst hX;exact(az.alloc _).alloc _
  have aN:H.next+1<c.next:=by subst hX;simp only[aB.bJ];omega
  clear hX
  obtain⟨a,xl⟩:∃a:Nat->aB->Prop,a=fun m H'=>H'.get r=some (.cells (cN 9 fun p=>if p<m then cO (GK l p (T++[t])) else cO (GK l p T)) false)/\H'.get H.next=some (.cells (cI (sE l t)) false)/\H'.get (H.next+1)=some (.cells (EL l t) false)/\NU H H' r/\aY H'/\H.next+1<H'.next:=⟨_,rfl⟩
  have i0:a 0 c:=by rw[xl];refine⟨?_,D,a1,.of aO,aF,aN⟩;simp only[Am,Db];exact ar
  clear D a1 ar aO aF aN;refine cC fun f N=>?_;have f2:=Kf (i:=2) N;have f3:=Kf (i:=3) N;have f4:=Kg (i:=4) N;clear N;refine bP ?_;refine Tz ?_;refine bQ ?_;refine fE [] (fun i _ H'=>a (3*i) H') 3 A1 rfl A1 ?_ ?_ ?_ ?_
  . exact zq
  . exact i0
  . rintro i u H1 WI E e1 j0;have k2:u 2=.ref r 0:=by rw[E 2 rfl];simp only[zB,seval];exact f2
    have k3:u 3=.ref H.next 0:=(by rw[E 3 rfl];simp only[zB,seval];exact f3);have k4:u 4=.ref (H.next+1) 0:=(by rw[E 4 rfl];simp only[zB,seval];exact f4);clear E;refine aM ?_;refine bP ?_;simp only[↓zP,zG,seval,e1];refine fQ ?_;refine Tz ?_;refine bQ ?_;refine fE [] (fun k _ H'=>a (3*i+k) H') 3 A1 rfl A1 ?_ ?_ ?_ ?_
    . exact zq
    . exact j0
    . rintro k s H2 n E e2 j1;have q2:s 2=.ref r 0:=(by rw[E 2 rfl];simp only[zB,seval];exact k2);have q3:s 3=.ref H.next 0:=(by rw[E 3 rfl];simp only[zB,seval];exact k3);have q4:s 4=.ref (H.next+1) 0:=(by rw[E 4 rfl];simp only[zB,seval];exact k4);have q5:s 5=.int .i64 i:=E 5 rfl;clear E;refine aM ?_;refine bP ?_;simp only[↓zP,zG,seval,e2];refine bQ ?_
      have ws:∀i,IntKind.i64.wrap ((nK l t.1).at i+(nK l t.2.1).at i)=(nK l t.1).at i+(nK l t.2.1).at i/\IntKind.i64.wrap ((nK l t.1).at i+(nK l t.2.1).at i+(nK l t.2.2).at i)=sI l t i:=fun i=>by have :=va i;exact⟨wrap_i64 A0 A0,wrap_i64 A0 A0⟩
      obtain⟨w1,w2⟩:=ws i;obtain⟨w3,w4⟩:=ws k
      have w5:IntKind.i64.wrap (sI l t i*sI l t k)=qI l t i k 0:=by have :=qb i k 0;unfold qI at this ⊢;exact wrap_i64 A0 A0
      obtain⟨x0,x1,x2⟩:=a7 i WI;obtain⟨y0,y1,y2⟩:=a7 k n;have j2:=j1;rw[xl] at j2;obtain⟨gr,g0,g1,U,q,I⟩:=j2;refine aP fun K hK=>?_;refine Dz ?_;have :i+1<=9:=A0;have :3+i+1<=9:=A0;have :6+i+1<=9:=A0;have :k+1<=9:=A0;have :3+k+1<=9:=A0;have :6+k+1<=9:=A0;refine Wy ?_;apply hK;clear hK K gr g0 g1 U q I;refine cC fun g d=>?_;have p2:=Ks d q2;have P:=Ks d q3;have X:=Ks d q4;have p5:=Ks d q5;have p6:=Kf (i:=6) d;have p7:=Kf (i:=7) d;clear d;refine aP fun K hK=>?_;refine aP fun L dJ=>?_;have j3:=j1;rw[xl] at j3;obtain⟨gr,g0,g1,U,q,I⟩:=j3;have :=oL l9;refine Ww ?_;apply dJ;clear dJ L gr g0 g1 U q I;refine fE [7] (fun j vs H'=>vs=[.int .i64 (qI l t i k j)]/\a (3*i+k) H') 3 A1 rfl A1 ?_ ?_ ?_ ?_
      . exact zq
      . exact⟨by simp only[sm,zB,seval,p7],j1⟩
      . rintro j J W S E e3 ⟨pL,j4⟩;simp only[zM] at pL;have m5:J 5=.int .i64 i:=(E 5 rfl).trans p5;have m6:J 6=.int .i64 k:=(E 6 rfl).trans p6;have aj:J 45=.agg (EL l t):=E 45 rfl;clear E;have ay:=ak j S;have v3:=oL (aW (vj l t j));have vi:=iY (vj l t j) WI;have vk:=iY (vj l t j) n
        have w6:IntKind.i64.wrap ((vj l t j).at i*(vj l t j).at k)=(vj l t j).at i*(vj l t j).at k:=by have :=pb i k j;exact wrap_i64 A0 A0
        have w7:IntKind.i64.wrap (qI l t i k j+(vj l t j).at i*(vj l t j).at k)=qI l t i k (j+1):=by have :=qb i k (j+1);rw[show qI l t i k (j+1)=qI l t i k j+(vj l t j).at i*(vj l t j).at k from rfl] at this ⊢;exact wrap_i64 A0 A0
        rw[xl] at j4 ⊢;obtain⟨gr,g0,g1,U,q,I⟩:=j4;refine aM ?_;refine bP ?_;simp only[↓zP,zJ,seval,e3,aj,aI,S,l9,ay,v3,show j*3+3<=9 by omega];refine bQ ?_;generalize hX:(W.alloc _).set W.next _=G;have ur:=Ku hX gr;have u0:=Ku hX g0;have u1:=Ku hX g1;have u9:=Kz hX;have us:NU H G r:=(by subst hX;exact U.trans (.of (((Over.refl W).alloc _).set (Ad _) _)));have uf:aY G:=(by subst hX;exact(q.alloc _).set Zal _);have un:H.next+1<G.next:=Zau;clear hX;generalize W.next=r9 at *;refine Dz ?_;simp only[↓zP,zJ,seval,zD,pL,m5,m6,u9,aI,WI,n,aW,vi,vk,w6,w7,show i<=2 by omega,show k<=2 by omega];exact⟨ur,u0,u1,us,uf,un⟩
      rintro J W E ⟨pL,j4⟩;simp only[zM] at pL;have Y:J 2=.ref r 0:=(E 2 rfl).trans p2;have m3:J 3=.ref H.next 0:=(E 3 rfl).trans P;have m5:J 5=.int .i64 i:=(E 5 rfl).trans p5;have m6:J 6=.int .i64 k:=(E 6 rfl).trans p6;refine Tx ?_;apply hK;clear hK K;rw[xl] at j4 ⊢;obtain⟨gr,g0,g1,U,q,I⟩:=j4;have ag:=qb i k 3;have vY:3*i+k<9:=A0;have a6:∀p,p<9->(if p<3*i+k then cO (GK l p (T++[t])) else cO (GK l p T)).length=18:=fun p _=>by split<;>exact lo _
      have ab:=MX a6 vY;rw[if_neg A0] at ab;have ae:=an (3*i+k);rw[show(3*i+k) / 3=i by omega,show(3*i+k)%3=k by omega] at ae;have of:=uP (z:=qI l t i k 3) A0 A0;have mu:=xD hd (eJ.enc (z:=qI l t i k 3) (Bv ag A1));have C:=xB (aq (3*i+k) T) (eJ.mul (x:=some (sE l t)) (y:=some (qI l t i k 3)));rw[<-ae] at C;have hp:i*54+k*18=(3*i+k)*18:=A0;have af:(3*i+k)*18<=144:=A0;have GG:=aDf a6 vY (lo (GK l (3*i+k) (T++[t])));refine Dz ?_;simp only[↓zP,zJ,seval,zD,Y,m3,m5,m6,pL,aI,WI,n,gr,g0,MY a6,b,oL b,hp,af,ab];refine gV (of _) ?_;simp only[seval];refine gV (mu _) ?_;simp only[seval];refine gV (C _) ?_;simp only[↓zP,zJ,seval,zD,Y,aI,WI,n,gr,lo,MY a6,hp,af];rw[GG,if_neg A0,if_neg A0];refine⟨Al (fun l=>eS.cells l false) (PZ fun p _=>?_),g0,g1,U.set _,q.set A0 _,I⟩;by_cases h:p=3*i+k
      . subst h;rw[if_pos rfl,if_pos A0]
      rw[if_neg h];by_cases Z:p<3*i+k
      . rw[if_pos Z,if_pos A0]
      rw[if_neg Z,if_neg A0]
    rintro s H2 E j1;exact j1
  rintro u H1 E j0;rw[xl] at j0;obtain⟨gr,g0,g1,U,q,I⟩:=j0;have e:(cN 9 fun p=>if p<3*3 then cO (GK l p (T++[t])) else cO (GK l p T))=cN 9 fun p=>cO (GK l p (T++[t])):=PZ fun p hp=>if_pos hp;rw[e] at gr
  exact⟨rfl,[],rfl,rfl,gr,U,q⟩)
 exact⟨H',w,⟨by have :=h.2.1.1;omega,h.1⟩,h.2.1,h.2.2⟩
end Go.Proofs.YtogfcjbgeebfkaaGreatDoor
namespace Go.Proofs.YtogfcjbgeebfkaaGreatDoor
open Go Go.Av
attribute [local congr] aZ aQ aR aL bD aU aS aG bE
attribute [local irreducible] FC bS eE
def aNq(c:Nat):Bool:=decide (97<=c|||32)&&decide (c|||32<=122)&&decide (c<128)
def Wn(i c:Nat):Bool:=aNq c||(!decide (i=0)&&(decide (c=95)||(decide (48<=c)&&decide (c<=57))))
def BL(s:List UInt8):Bool:=(List.range s.length).all (fun k=>Wn k (s.getD k 0).toNat)&&(decide (1<=s.length)&&decide (s.length<=32))
end Go.Proofs.YtogfcjbgeebfkaaGreatDoor
namespace Go.Proofs.YtogfcjbgeebfkaaGreatDoor
open Go Go.Av Go.aH Go.iW
attribute [local congr] aZ aQ aR aL bD aU aS aG bE
attribute [local irreducible] FC bS eE
def zN(n:aH.V)(m:Int)(l:List aH.V):Int:=l.foldl (fun m v=>if aH.dot n v<m then aH.dot n v else m) m
def yU(n:aH.V)(m:Int)(l:List aH.V):Int:=l.foldl (fun m v=>if aH.dot n v>m then aH.dot n v else m) m
theorem ki(z:Int):cP (cI z)=true:=dG z
theorem qt{tag:Nat}(ht:Nat.blt tag 2=true){l:List aH.V}{M B:Nat}(U:∀v∈l,bT M v)(Q:l.length<2^30)(g:M<=2^18){n:aH.V}(hn:bT B n)(hB:B<=2^62){S:aH.V}{r:List aH.V}(C:l=S::r)(H:aB):
 Sg 94 [.agg [.bK tag 3 (bU l)],.agg (cS n)] H (.ret (.iV [.agg (cI (zN n (aH.dot n S) l)),.agg (cI (yU n (aH.dot n S) l))])) H:=by
 have b:∀{A:Nat} {v:aH.V},bT A v->A<=2^62->∀i,JV (v.at i):=fun {A v} h hA i=>by have :=bT.c h i;unfold JV;omega
 have aj:B*M<=2^62*2^18:=Az hB g
 have a:∀v∈l,∀H,Sg 185 [.agg (cS n),.agg (cS v)] H (.ret (.agg (cI (aH.dot n v)))) H:=fun v hv H=>by
  have :=aBm (b hn hB) (b (U v hv) A0) H
  rwa [XF hn (U v hv) (by
   have :(2:Nat)^62*2^18*3<2^240:=by decide
   omega)] at this
 refine Sp bRo (by simp only[sf,cT ht,cD]) (by simp only[AV.free,cP,ki];rfl) ?_ H;unfold W94;dsimp only;have m:0<l.length:=by rw[C];simp
 have ae:l[0]=S:=by subst C;rfl
 have g0:=cG m;have O:=a _ (Ag m);have D:asNat (.int .i64 0)=some 0:=rfl;have k:∀z,(cI z).length=18:=fun z=>by simp[cI,cK,cW]
 refine bP ?_;refine Ty ?_;refine fQ ?_;refine Dz ?_;simp only[↓zP,zJ,seval,zD,D,aX,m,g0,oL (aW l[0]),oL (aW n)];have tC:(AV.bool false::AV.bool false::wC zs).length=18:=by simp[cK];rfl
 refine gV (O _) ?_;simp only[↓zP,zJ,seval,zD,D,aX,m,g0,oL (aW l[0]),oL (aW n)];refine gV (O _) ?_;rw[ae];generalize hd:aH.dot n S=s at *;simp only[↓zP,zJ,seval,zD,k,tC,oL tC];refine bQ ?_;refine aP fun K hK=>?_;refine bP ?_;refine Ty ?_;refine bQ ?_;refine bR [] (fun i _ H'=>H'.get 1=some (.cells (cS n) false)/\H'.get 2=some (.cells (cI (zN n s (l.take i))) false)/\H'.get 3=some (.cells (cI (yU n s (l.take i))) false)/\4<=H'.next/\(zN n s (l.take i)).natAbs<=3*(B*M)/\(yU n s (l.take i)).natAbs<=3*(B*M)) l.length A0 A1 ?_ ?_ ?_ ?_ ?_
 . exact zq
 . exact Zbw
 . have J:=nR hn (U S (by rw[C];simp));rw[hd] at J;exact⟨by simp only[zI,seval],by simp only[zI,seval];rfl,by simp only[zI,seval];rfl,by simp only[zI,seval],J,J⟩
 . rintro i f H1 F E T ⟨R,Y,m3,ab,b1,b2⟩;have hg:=cG F;have j:=Ag F;have ad:=a _ j;have J:=nR hn (U _ j)
   have OP:zN n s (l.take (i+1))=if aH.dot n l[i]<zN n s (l.take i) then aH.dot n l[i] else zN n s (l.take i):=by unfold zN;rw[Ao,Hx];simp[F]
   have xr:yU n s (l.take (i+1))=if aH.dot n l[i]>yU n s (l.take i) then aH.dot n l[i] else yU n s (l.take i):=by unfold yU;rw[Ao,Hx];simp[F]
   rw[OP,xr];generalize zN n s (l.take i)=lo at *;generalize yU n s (l.take i)=N at *;generalize l[i]=x at *;generalize aH.dot n x=d at *;have n1:¬(1=H1.next):=A0;have n2:¬(2=H1.next):=A0;have n3:¬(3=H1.next):=A0;refine aM ?_;refine bP ?_;simp only[↓zP,zJ,seval,T,E 22 rfl,aI,aX,F,hg,oL (aW x)];refine fQ ?_;simp only[↓zP,zJ,seval,E 3 rfl,n1,R,oL (aW x),oL (aW n)];refine eI (ad _) ?_;simp only[↓zP,zJ,seval,k,tC,oL tC];refine bQ ?_;generalize hX:(((H1.alloc _).set H1.next _).alloc _).set (H1.next+1) _=G;have e:G.get 1=some (.cells (cS n) false):=(by subst hX;rw[aB.aD,if_neg A0,aB.aJ,if_neg Zag,aB.aD,if_neg A0,aB.aJ,if_neg A0];exact R);have y2:G.get 2=some (.cells (cI lo) false):=(by subst hX;rw[aB.aD,if_neg A0,aB.aJ,if_neg Zag,aB.aD,if_neg A0,aB.aJ,if_neg A0];exact Y);have y3:G.get 3=some (.cells (cI N) false):=(by subst hX;rw[aB.aD,if_neg A0,aB.aJ,if_neg Zag,aB.aD,if_neg A0,aB.aJ,if_neg A0];exact m3);have y8:=Kz hX;have w:4<=G.next:=Zau;clear hX;generalize ag:H1.next+1=r8 at *
   have af:3*(B*M)<W^16:=by have :3*(2^62*2^18)<W^16:=A1;omega
   have lZ:eJ (cI d) (some d):=.enc A0;have a6:eJ (cI lo) (some lo):=.enc A0;have a7:eJ (cI N) (some N):=.enc A0;have q2:¬(2=r8):=A0;have q3:¬(3=r8):=A0;refine aP fun L dJ=>?_
   have BZ:∀y:Int,(decide (mH (some d) (some y)<0)=decide (d<y))/\(decide (mH (some d) (some y)>0)=decide (d>y)):=fun y=>by constructor<;>(rw[Bj];simp only[mH];split<;>(try split)<;>omega)
   have key:∀(u:dI) (H':aB) (Z:Int),u 8=.ref r8 0->u 5=.ref 3 0->H'.get r8=some (.cells (cI d) false)->H'.get 1=some (.cells (cS n) false)->H'.get 2=some (.cells (cI Z) false)->H'.get 3=some (.cells (cI N) false)->4<=H'.next->Z=(if d<lo then d else lo)->L u [] H':=by
    intro u H' Z v8 v5 p8 p1 p2 P pn t;apply dJ;clear dJ L;simp only[↓zP,zJ,seval,v8,v5,p8,P,k,oL (k d),oL (k N)];refine eI (HR lZ a7 _) ?_;have o:(if d<lo then d else lo).natAbs<=3*(B*M):=ZaU;by_cases X:d>N
    . have q:decide (mH (some d) (some N)>0)=true:=(by rw[(BZ N).2];exact Af X);simp only[↓zP,zJ,seval,q,v8,v5,p8,P,k,oL (k d),oL (k N)];rw[if_pos X,<-t];exact⟨p1,p2,rfl,pn,by rw[t];exact o,J⟩
    have q:decide (mH (some d) (some N)>0)=false:=(by rw[(BZ N).2];exact Ac X);simp only[↓zP,zG,seval,q];rw[if_neg X,<-t];exact⟨p1,p2,P,pn,by rw[t];exact o,b2⟩
   simp only[↓zP,zJ,seval,E 4 rfl,y8,y2,k,oL (k d),oL (k lo)];refine eI (HR lZ a6 _) ?_;by_cases I:d<lo
   . have p:decide (mH (some d) (some lo)<0)=true:=(by rw[(BZ lo).1];exact Af I);simp only[↓zP,zJ,seval,p,E 4 rfl,y8,y2,k,oL (k d),oL (k lo)];refine key _ _ d zq (by simp only[zB,seval];exact E 5 rfl) ?_ ?_ ?_ ?_ ?_ (if_pos I).symm
     . rw[aB.aD,if_neg A0];exact y8
     . rw[aB.aD,if_neg A0];exact e
     . exact ZaK
     . rw[aB.aD,if_neg A0];exact y3
     rw[aB.bB];exact w
   have p:decide (mH (some d) (some lo)<0)=false:=(by rw[(BZ lo).1];exact Ac I);refine Wy ?_;exact key _ _ lo zq (by simp only[zB,seval];exact E 5 rfl) y8 e y2 y3 w (if_neg I).symm
 rintro f H1 E ⟨R,Y,m3,ab,b1,b2⟩;rw[Ap] at Y m3;refine Tx ?_;apply hK;clear hK K;refine bP ?_;refine Dz ?_;simp only[↓zP,zJ,seval,zD,E 4 rfl,E 5 rfl,Y,m3,k,oL (k (zN n s l)),oL (k (yU n s l))];refine bQ ?_;refine Tx ?_;refine⟨rfl,_,by simp only[↓zP,zR,seval,E 4 rfl,E 5 rfl,k,oL (k (zN n s l)),oL (k (yU n s l))];rfl,?_⟩;rfl
variable{ta tb:Nat}
theorem Rn(a b:List aH.V)(H:aB):Sg 93 [.agg [.bK ta 3 (bU a)],.agg [.bK tb 3 (bU b)]] H (.ret (.func (.func 181) [] [.ref H.next 0,.ref (H.next+1) 0])) ((H.alloc (.cells [.bK ta 3 (bU a)] false)).alloc (.cells [.bK tb 3 (bU b)] false)):=by refine oS bRn (Ab rfl) ?_;unfold W93;dsimp only;refine bP ?_;refine Ty ?_;refine bQ ?_;refine Ty ?_;refine Rx ?_;exact⟨rfl,rfl⟩
def MZ(U W:List aH.V):List aH.V:=U.flatMap fun u=>W.filterMap fun w=>if aH.bC u w=V0 then none else some (aH.bC u w)
def lX(l p:List (aH.V×Int))(U W:List aH.V):List aH.V:=(l++p).map (·.1)++MZ U W
def pre(D:List aH.V)(U W:List aH.V)(i j:Nat):List aH.V:=D++MZ (U.take i) W++MZ ((U.drop i).take 1) (W.take j)
theorem Uc(A B W:List aH.V):MZ (A++B) W=MZ A W++MZ B W:=by simp[MZ,Gi]
theorem km(u:aH.V)(A B:List aH.V):MZ [u] (A++B)=MZ [u] A++MZ [u] B:=by simp[MZ,El,List.flatMap_nil,Bx,List.filterMap_append]
theorem bDv(A:List aH.V):MZ A []=[]:=by simp[MZ]
theorem aDo(u w:aH.V):MZ [u] [w]=if aH.bC u w=V0 then [] else [aH.bC u w]:=by by_cases h:aH.bC u w=V0<;>simp[MZ,h]
variable{U:List aH.V}{i:Nat}
theorem yB(h:i<U.length):(U.drop i).take 1=[U[i]]:=by rw[Gb h];rfl
theorem HM(h:i<U.length):U.take (i+1)=U.take i++[U[i]]:=by simp
theorem Ve(D U W:List aH.V)(i:Nat):pre D U W i 0=D++MZ (U.take i) W:=by simp[pre,bDv]
variable{D W:List aH.V}
theorem aPh(h:i<U.length):pre D U W i W.length=pre D U W (i+1) 0:=by rw[Ve,HM h,Uc];simp[pre,yB,h,Ap,Di]
theorem aHm{j:Nat}(h:i<U.length)(Y:j<W.length):pre D U W i (j+1)=pre D U W i j++MZ [U[i]] [W[j]]:=by simp only[pre,yB h,HM Y,km,Di]
theorem aPg(l p:List (aH.V×Int))(U W:List aH.V):lX l p U W=pre ((l++p).map (·.1)) U W U.length 0:=by rw[Ve,Ap];rfl
theorem aPi{j:Nat}(h:i<U.length)(Y:j<=W.length):∃R,pre D U W U.length 0=pre D U W i j++R:=by
 refine⟨MZ [U[i]] (W.drop j)++MZ (U.drop (i+1)) W,?_⟩;rw[Ve,Ap]
 have e:U=U.take i++([U[i]]++U.drop (i+1)):=by simp
 have o:MZ [U[i]] W=MZ [U[i]] (W.take j)++MZ [U[i]] (W.drop j):=by rw[<-km,Jz]
 conv=>lhs;rw[e]
 rw[Uc,Uc,o];simp[pre,yB,h,Di]
theorem OJ{a b:List aH.V}{l p:List (aH.V×Int)}{La Lb:aH.V×Int->List Nat}{MU:Nat}(ay:MU<=2^20)
 (fa:∀H,Sg 182 [.agg [.bK ta 3 (bU a)]] H (.ret (.bK (H.next+2) 5 (l.map (cX La)))) (H.alloc .tok))
 (fb:∀H,Sg 182 [.agg [.bK tb 3 (bU b)]] H (.ret (.bK (H.next+2) 5 (p.map (cX Lb)))) (H.alloc .tok))
 (ea:∀H,Sg 183 [.agg [.bK ta 3 (bU a)]] H (.ret (.bK 0 3 (bU U))) H)
 (eb:∀H,Sg 183 [.agg [.bK tb 3 (bU b)]] H (.ret (.bK 0 3 (bU W))) H)
 (nU:∀v∈U,bT MU v) (nW:∀v∈W,bT MU v) (br:l.length<=64) (bq:p.length<=64) (b7:p≠[]) (lU:U.length<=2^20) (lW:W.length<=2^20)
 {id r1 r2:Nat} {o1 o2:Bool} {H:aB} (I:Nat->aB->Prop) (a6:aB->Prop) (A:aH.V->Bool) (J:∀k H H',Over H H'->I k H->I k H') (bA:∀H H',Over H H'->a6 H->a6 H')
 (eX:∀k (E:k<(lX l p U W).length) H1,I k H1->∃H',mS Tryz.prog gv id [.agg (cS (lX l p U W)[k])] H1 (.ret (.bool (!A (lX l p U W)[k]))) H'/\(if A (lX l p U W)[k] then a6 H' else I (k+1) H')/\H1.next<=H'.next/\∀j,H.next<=j->j<H1.next->H'.get j=H1.get j)
 (bc:∀k H1,I k H1->H.next<=H1.next) (b1:r1<H.next) (b2:r2<H.next) (g1:H.get r1=some (.cells [.bK ta 3 (bU a)] o1)) (g2:H.get r2=some (.cells [.bK tb 3 (bU b)] o2))
 (LP:∀k H',I k H'->H'.get r1=some (.cells [.bK ta 3 (bU a)] o1)/\H'.get r2=some (.cells [.bK tb 3 (bU b)] o2)) (G:I 0 H):
 ∃H',(if(lX l p U W).any A then a6 H' else I (lX l p U W).length H')/\Sg 181 [.yield id,.ref r1 0,.ref r2 0] H (.ret (.iV [])) H':=by
 suffices h:∃out H',(out=.ret (.iV [])/\if(lX l p U W).any A then a6 H' else I (lX l p U W).length H')/\Sg 181 [.yield id,.ref r1 0,.ref r2 0] H out H' by obtain⟨_,H',⟨rfl,t⟩,hS⟩:=h;exact⟨H',t,hS⟩
 refine bZ fit bHm (Ab rfl) ?_;unfold aVe;dsimp only;refine aP fun K hK=>?_;refine bP ?_;refine Dz ?_;have k2:(H.alloc .tok).get r2=H.get r2:=by rw[aB.aJ,if_neg A0]
 simp only[↓zP,zJ,seval,zD,g1];refine yG A1 ZaI (fa _) A3 (fun x hx m=>by simp only[Ca] at hx;subst hx;simp at m) ?_;simp only[↓zP,zJ,seval,zD,g2,k2];refine⟨by rw[if_neg A0],?_⟩;refine yG A1 ZaI (fb _) A3 (fun x hx m=>by simp at m) ?_;have bo:Own ((H.alloc .tok).alloc .tok) 5 (.bK (H.next+2) 5 (l.map (cX La))) (l.map (cX La)):=.inr ⟨H.next,rfl,by simp;omega,by rw[aB.aJ,if_neg A3,aB.aJ,if_pos rfl]⟩;obtain⟨v',H5,z1,z2,z3⟩:=bo.append (ys:=p.map (cX Lb)) (bytes:=56) (by simp only[Ah];omega)
 have C:Over H H5:=⟨by have :=z3.next;simp at this;omega,fun j Y=>by rw[z3.get j (by simp[Yp];omega) Zag,aB.aJ,if_neg Zag,aB.aJ,if_neg A0]⟩
 rcases z2 with ⟨_,h⟩|⟨tk,rfl,_,_⟩
 . simp at h;exact absurd h.2 b7
 simp only[↓zP,zJ,seval,zD];rw[show ∀(h:aB) (n:Nat) (y:List (List AV)),dM h 5 (.bK n 5 y)=some y from fun _ _ _=>rfl];simp only[z1,bV,↓zP,seval,zD,Aq,Ah];refine⟨by have :=z3.next;simpa using this,?_⟩;refine bQ ?_;have Ut:(l++p).length<=(lX l p U W).length:=by simp only[lX,Aq,Ah];omega
 have ar:∀i (h:i<(l++p).length),(lX l p U W)[i]'(Au h Ut)=((l++p)[i]).1:=fun i h=>by simp only[lX];rw[List.getElem_append_left (by simpa using h),Dv]
 have Mk:∀i (h:i<(l++p).length),((l.map (cX La)++p.map (cX Lb)).getD i []).length=5/\((l.map (cX La)++p.map (cX Lb)).getD i []).take 3=cS ((l++p)[i]).1:=fun i h=>by
  by_cases O:i<l.length
  . have :(l.map (cX La)++p.map (cX Lb)).getD i []=cX La l[i]:=by simp[List.getD,Dp,O]
    rw[this,List.getElem_append_left O];exact Za1
  have Z:i -l.length<p.length:=by rw[Aq] at h;omega
  have :(l.map (cX La)++p.map (cX Lb)).getD i []=cX Lb p[i -l.length]:=by simp[List.getD,Dp,O,Z]
  rw[this,List.getElem_append_right A0];exact Za1
 refine bR [] (fun i vs H'=>I i H'/\∀k,k<i->∀h:k<(lX l p U W).length,A (lX l p U W)[k]=false) (l.length+p.length) A0 A1 ?_ ?_ ?_ ?_ ?_
 . exact zq
 . exact zq
 . exact⟨J 0 _ _ C G,fun k E=>absurd E (Am _)⟩
 . rintro i f H1 F E T ⟨hI,ak⟩;have N:i<(l++p).length:=by rw[Aq];exact F
   obtain⟨B,P⟩:=Mk i N;have M:=eX i (Au N Ut)
   have aA:∀k,k<i+1->A ((lX l p U W)[i]'(Au N Ut))=false->∀h:k<(lX l p U W).length,A (lX l p U W)[k]=false:=fun k E O h=>by
    by_cases e:k=i
    . subst e;exact O
    exact ak k A0 h
   have OL:A ((lX l p U W)[i]'(Au N Ut))=true->(lX l p U W).any A=true:=fun h=>Cz.2 ⟨_,Ag _,h⟩;rw[ar i N] at M aA OL;have OM:i<(l.map (cX La)++p.map (cX Lb)).length:=(by simp only[Aq,Ah];exact F);generalize Oi:(l.map (cX La)++p.map (cX Lb)).getD i []=cs at *;generalize ((l++p)[i]).1=d at *;refine aM ?_;refine bP ?_;have bn:i<l.length+p.length:=F;simp only[↓zP,zJ,seval,T,E 17 rfl,aI,Aq,Ah,bn,Oi,oL B];refine bQ ?_;have bj:Over H1 ((H1.alloc (.cells [.int .i64 0,.int .i64 0,.int .i64 0,.int .i64 0,.bG] false)).set H1.next (.cells cs false)):=((Over.refl H1).alloc _).set (Ad _) _;have b3:((H1.alloc (.cells [.int .i64 0,.int .i64 0,.int .i64 0,.int .i64 0,.bG] false)).set H1.next (.cells cs false)).get H1.next=some (.cells cs false):=ZaK;obtain⟨H2,Q,XY,_,_⟩:=M _ (J i _ _ bj hI);generalize (H1.alloc (.cells [.int .i64 0,.int .i64 0,.int .i64 0,.int .i64 0,.bG] false)).set H1.next (.cells cs false)=HA at *;simp only[↓zP,zJ,seval,b3,B,P,E 0 rfl];refine uN A1 (by rfl) (by rfl) Q ?_
   cases b8:A d with
   |true=>rw[b8] at XY;refine Ty ?_;refine⟨rfl,_,by simp only[zR,seval];rfl,?_⟩;exact⟨rfl,by rw[if_pos (OL b8)];simpa using XY⟩
   |false=>rw[b8] at XY;refine Ty ?_;exact⟨by simpa using XY,fun k E h=>aA k E b8 h⟩
 rintro f H1 E ⟨hI,ak⟩;refine Tx ?_;apply hK;clear hK K;obtain⟨w1,w2⟩:=LP _ _ hI;refine bP ?_;refine Dz ?_;simp only[↓zP,zJ,seval,zD,E 1 rfl,w1];refine gV (ea _) ?_;simp only[↓zP,zJ,seval,zD,E 2 rfl,w2];refine gV (eb _) ?_;simp only[↓zP,zJ,seval,zD];refine fQ ?_;simp only[↓zP,zG,seval,aX];refine bQ ?_;have ma:(l++p).length=l.length+p.length:=Aq;have az:((l++p).map (·.1)).length=l.length+p.length:=by rw[Ah,ma]
 have aE:lX l p U W=pre ((l++p).map (·.1)) U W U.length 0:=aPg ..
 have bl:∀x∈(l++p).map (·.1),A x=false:=fun x hx=>by
  obtain⟨k,q,rfl⟩:=Dl hx;have aq:k<l.length+p.length:=by rw[<-az];exact q
  have :=ak k aq A0;rw[ar k (by rw[ma];exact aq)] at this;rw[Dv];exact this
 generalize bz:(l++p).map (·.1)=D at *;refine bR [] (fun i vs H'=>I (pre D U W i 0).length H'/\∀x∈pre D U W i 0,A x=false) U.length A0 A1 ?_ ?_ ?_ ?_ ?_
 . exact zq
 . exact zq
 . have e:pre D U W 0 0=D:=by simp[Ve,MZ]
   rw[e,az];exact⟨hI,bl⟩
 . rintro i f2 H2 F fS o ⟨XY,af⟩;have aO:=cG F;have aj:=nU _ (Ag F);refine aM ?_;simp only[↓zP,zJ,seval,o,fS 33 rfl,fS 7 rfl,aI,aX,F,aO,oL (aW U[i])];refine bR [] (fun j vs H'=>I (pre D U W i j).length H'/\(∀x∈pre D U W i j,A x=false)/\H2.next<H'.next/\H'.get H2.next=some (.cells (cS U[i]) false)) W.length A0 A1 ?_ ?_ ?_ ?_ ?_
   . exact zq
   . exact zq
   . exact⟨J _ _ _ (((Over.refl H2).alloc _).set (Ad _) _) XY,af,by simp,by rw[aB.aD,if_pos rfl]⟩
   . rintro j S H3 Y lO e3 ⟨ab,ad,Uw,g9⟩;have aN:=cG Y;have ag:=nW _ (Ag Y);have X:=aHm (D:=D) F Y;obtain⟨R,r⟩:=aPi (D:=D) (W:=W) F (show j+1<=W.length from Y);rw[<-aE,X,aDo] at r;rw[aDo] at X;have bx:=bc _ _ XY;generalize pre D U W i (j+1)=Pn at *;generalize pre D U W i j=Pj at *;generalize U[i]=u at *;generalize W[j]=w at *;have b5:bT (2*(MU*MU)) (aH.bC u w):=iM aj ag;have bu:MU*MU<=2^20*2^20:=Az ay ay;have ba:∀i,JV (u.at i):=fun i=>by have :=bT.c aj i;unfold JV;omega
     have b9:∀i,JV (w.at i):=fun i=>by have :=bT.c ag i;unfold JV;omega
     have ae:∀i,i<3->Zq (fun i=>some (u.at i)) (fun i=>some (w.at i)) i=some ((aH.bC u w).at i):=fun i F=>Zs aj ag (by
      have :(3*(2^20*2^20):Nat)<2^240:=by decide
      omega) F
     have L:∀i,((aH.bC u w).at i).natAbs<=2*(MU*MU):=fun i=>bT.c b5 i;have bp:2*(2^20*2^20)<iW.W^16:=by decide
     have b6:∀i,i<3->eJ (cO (Zq (fun i=>some (u.at i)) (fun i=>some (w.at i)) i)) (Zq (fun i=>some (u.at i)) (fun i=>some (w.at i)) i):=fun i F=>by rw[ae i F];exact .enc (by have :=L i;omega)
     have bm:(⟨(fU (Zq (fun i=>some (u.at i)) (fun i=>some (w.at i)) 0)).1,(fU (Zq (fun i=>some (u.at i)) (fun i=>some (w.at i)) 1)).1,(fU (Zq (fun i=>some (u.at i)) (fun i=>some (w.at i)) 2)).1⟩:aH.V)=aH.bC u w:=by
      have sm:∀z:Int,z.natAbs<=2*(MU*MU)->(fU (some z)).1=z:=fun z s=>by simp only[fU];rw[if_pos A0]
      rw[ae 0 A1,ae 1 A1,ae 2 A1,sm _ (L 0),sm _ (L 1),sm _ (L 2)];rfl
     have n9:¬(H2.next=H3.next):=A0;refine aM ?_;simp only[↓zP,zJ,seval,e3,lO 39 rfl,lO 9 rfl,aI,aX,Y,aN,oL (aW w),oL (aW u),g9,n9];refine eI (aBj ba b9 _) ?_;refine eI (yl b6 _) ?_;rw[bm];generalize hc:aH.bC u w=c at *;by_cases g:c=V0
     . rw[if_pos g,Bx] at X;have hd:decide (c=V0)=true:=Af g;simp only[↓zP,zJ,seval,oL (aW c),KP,hd];rw[X];refine⟨J _ _ _ (((((Over.refl H3).alloc _).set (Ad _) _).alloc _).set A3 _) ab,ad,by omega,?_⟩;rw[if_neg A0,if_neg A0,if_neg A0,if_neg A0];exact g9
     have hd:decide (c=V0)=false:=Ac g;simp only[↓zP,zJ,seval,oL (aW c),KP,hd];generalize hX:(((H3.alloc _).set _ _).alloc _).set _ _=HX;have an:Over H3 HX:=(by subst hX;exact((((Over.refl H3).alloc _).set (Ad _) _).alloc _).set A0 _);clear hX;have bf:=(an.same H2.next Uw).trans g9;have bb:=J _ _ _ an ab;have bs:=an.le;rw[if_neg g] at X r;have eZ:Pj.length<(lX l p U W).length:=(by rw[r];simp);have aF:(lX l p U W)[Pj.length]'eZ=c:=(by simp[r]);obtain⟨H6,Q,a7,bt,aK⟩:=eX _ eZ HX bb;rw[aF] at Q a7
     have b4:S 0=.yield id:=by rw[lO 0 rfl];simp only[zB,seval];rw[fS 0 rfl];simp only[zB,seval];rw[E 0 rfl];simp only[zB,seval,dY,Ce]
     refine uN A1 (by simp only[zB,seval];exact b4) ZaI Q ?_
     cases b8:A c with
     |true=>rw[b8] at a7;have OL:(lX l p U W).any A=true:=Cz.2 ⟨c,by rw[<-aF];exact Ag eZ,b8⟩;refine Ty ?_;refine⟨rfl,_,by simp only[zR,seval];rfl,?_⟩;exact⟨rfl,by rw[if_pos OL];simpa using a7⟩
     |false=>
      rw[b8] at a7;refine Ty ?_;rw[X,Aq];refine⟨by simpa using a7,fun x hx=>?_,by omega,(aK _ A0 A0).trans bf⟩
      rcases Ar.1 hx with hx|hx
      . exact ad x hx
      rw[Ca] at hx;subst hx;exact b8
   rintro S H3 lO ⟨ab,ad,Uw,g9⟩;rw[aPh F] at ab ad;exact⟨ab,ad⟩
 rintro f2 H2 fS ⟨XY,af⟩;rw[<-aE] at XY af
 have OL:(lX l p U W).any A=false:=by rw[Fp];intro x hx;simp[af x hx]
 refine⟨rfl,_,by simp only[zR,seval];rfl,?_⟩;exact⟨rfl,by rw[OL];exact XY⟩
def pP(a b:List aH.V)(n:aH.V):Bool:=decide (yU n (aH.dot n (a.getD 0 V0)) a<=zN n (aH.dot n (b.getD 0 V0)) b)||decide (yU n (aH.dot n (b.getD 0 V0)) b<=zN n (aH.dot n (a.getD 0 V0)) a)
theorem Ld{n:aH.V}{X:Nat}:∀{l:List aH.V} {m:Int},m.natAbs<=X->(∀v∈l,(aH.dot n v).natAbs<=X)->(zN n m l).natAbs<=X
 |[],_,h,_=>h
 |v::l,m,h,hl=>by have O:=hl v Ay;have :=Ld (n:=n) (l:=l) (m:=if aH.dot n v<m then aH.dot n v else m) A0 (fun w L=>hl w (Ax _ L));exact this
theorem LI{n:aH.V}{X:Nat}:∀{l:List aH.V} {m:Int},m.natAbs<=X->(∀v∈l,(aH.dot n v).natAbs<=X)->(yU n m l).natAbs<=X
 |[],_,h,_=>h
 |v::l,m,h,hl=>by have O:=hl v Ay;have :=LI (n:=n) (l:=l) (m:=if aH.dot n v>m then aH.dot n v else m) A0 (fun w L=>hl w (Ax _ L));exact this
theorem WX(an:Nat.blt ta 2=true)(ak:Nat.blt tb 2=true){a b:List aH.V}{M B:Nat}(ha:∀v∈a,bT M v)(hb:∀v∈b,bT M v)(hM:M<=2^18)(aK:a.length<2^30)(aF:b.length<2^30)(aN:a≠[])(Rz:b≠[])
 {l p:List (aH.V×Int)} {La Lb:aH.V×Int->List Nat} {U W:List aH.V} {MU:Nat} (b3:MU<=2^20)
 (fa:∀H,Sg 182 [.agg [.bK ta 3 (bU a)]] H (.ret (.bK (H.next+2) 5 (l.map (cX La)))) (H.alloc .tok))
 (fb:∀H,Sg 182 [.agg [.bK tb 3 (bU b)]] H (.ret (.bK (H.next+2) 5 (p.map (cX Lb)))) (H.alloc .tok))
 (ea:∀H,Sg 183 [.agg [.bK ta 3 (bU a)]] H (.ret (.bK 0 3 (bU U))) H)
 (eb:∀H,Sg 183 [.agg [.bK tb 3 (bU b)]] H (.ret (.bK 0 3 (bU W))) H)
 (nU:∀v∈U,bT MU v) (nW:∀v∈W,bT MU v) (aA:l.length<=64) (az:p.length<=64) (aO:p≠[]) (lU:U.length<=2^20) (lW:W.length<=2^20)
 (Xc:∀n∈lX l p U W,bT B n) (r:B<=2^62) (H:aB):
 Sg 31 [.agg [.bK ta 3 (bU a)],.agg [.bK tb 3 (bU b)]] H (.ret (.bool ((lX l p U W).any (pP a b)))) H:=by
 suffices h:∃out H',out=.ret (.bool ((lX l p U W).any (pP a b)))/\Sg 31 [.agg [.bK ta 3 (bU a)],.agg [.bK tb 3 (bU b)]] ⟨0,.nil⟩ out H' by obtain⟨_,H',rfl,w⟩:=h;exact Sound.frame dZ (by simp only[sf,cT an,cT ak]) w (tk:=none) (fun k E=>by cases E) (n:=0) H (uG rfl)
 obtain⟨D,ar,ad⟩:=Ef aN;obtain⟨b0,br,ab⟩:=Ef Rz;refine qH fit bQo (Ab rfl) ?_;unfold W31;dsimp only;refine bP ?_;refine Ty ?_;refine bQ ?_;refine aP fun K hK=>?_;refine bP ?_;refine Ty ?_;refine eI (Rn (ta:=ta) (tb:=tb) a b _) ?_;simp only[↓zP,seval,zI];refine bQ ?_
 refine UG (by
  repeat (first|exact(sB (Ab rfl)).1|refine nH.jF ?_ A1 _)) (fun f Q WG N xk=>?_)
 have P:=Kf (i:=2) N;have f3:=Kf (i:=3) N;have f4:=Kf (i:=4) N;have b4:=Kf (i:=12) N;have xn:Q.next=5:=by subst xk;simp only[zI,seval]
 have x0:Q.get 0=some (.cells [.bK ta 3 (bU a)] false):=by subst xk;simp only[zI,seval]
 have x1:Q.get 1=some (.cells [.bK tb 3 (bU b)] false):=by subst xk;simp only[zI,seval]
 have x2:Q.get 2=some (.cells [.bool false] false):=by subst xk;simp only[zI,seval]
 have x3:Q.get 3=some (.cells [.bK ta 3 (bU a)] false):=by subst xk;simp only[zI,seval]
 have x4:Q.get 4=some (.cells [.bK tb 3 (bU b)] false):=by subst xk;simp only[zI,seval]
 clear N xk;refine aM ?_;refine uL (by rw[iG];exact b4) ?_;simp only[xn,seval];generalize A:HU.mk [13] _ _=key
 let I:Nat->aB->Prop:=fun _ H'=>7<=H'.next/\H'.get 0=some (.cells [.bK ta 3 (bU a)] false)/\H'.get 1=some (.cells [.bK tb 3 (bU b)] false)/\H'.get 2=some (.cells [.bool false] false)/\H'.get 3=some (.cells [.bK ta 3 (bU a)] false)/\H'.get 4=some (.cells [.bK tb 3 (bU b)] false)/\H'.get 5=some .AN/\H'.get 6=some (.loop key (LF 36 f) .ready)
 let c:aB->Prop:=fun H'=>H'.get 2=some (.cells [.bool true] false)/\7<=H'.next/\H'.get 5=some .AN/\∃k s,H'.get 6=some (.loop k s (.done .ret))
 have xR:∀i H1 H2,Over H1 H2->I i H1->I i H2:=fun i H1 H2 S ⟨w1,w2,R,C,m,w6,w7,w8⟩=>⟨Aw w1 S.le,(S.same _ A0).trans w2,(S.same _ A0).trans R,(S.same _ A0).trans C,(S.same _ A0).trans m,(S.same _ A0).trans w6,(S.same _ A0).trans w7,(S.same _ A0).trans w8⟩
 have ay:∀H1 H2,Over H1 H2->c H1->c H2:=fun H1 H2 S ⟨w1,w2,R,k,s,C⟩=>⟨(S.same _ A0).trans w1,Aw w2 S.le,(S.same _ A0).trans R,k,s,(S.same _ A0).trans C⟩
 have yn:((Q.alloc .AN).alloc (.loop key (LF 36 f) .ready)).next=7:=by simp[xn]
 have G:I 0 ((Q.alloc .AN).alloc (.loop key (LF 36 f) .ready)):=by refine⟨by rw[yn];decide,?_,?_,?_,?_,?_,?_,?_⟩<;>simp[aB.aJ, *]
 have eX:∀k (E:k<(lX l p U W).length) H1,I k H1->∃H',mS Tryz.prog gv 6 [.agg (cS (lX l p U W)[k])] H1 (.ret (.bool (!pP a b (lX l p U W)[k]))) H'/\(if pP a b (lX l p U W)[k] then c H' else I (k+1) H')/\H1.next<=H'.next/\∀j,((Q.alloc .AN).alloc (.loop key (LF 36 f) .ready)).next<=j->j<H1.next->H'.get j=H1.get j:=by
  rintro k E H1 ⟨w1,w2,R,C,m,w6,w7,w8⟩;have hn:=Xc _ (Ag E);rw[yn];generalize (lX l p U W)[k]=n at *
  suffices h:∃out H',(out=.ret (.bool (!pP a b n))/\(if pP a b n then c H' else I (k+1) H')/\H1.next<=H'.next/\∀j,7<=j->j<H1.next->H'.get j=H1.get j)/\mS Tryz.prog gv 6 [.agg (cS n)] H1 out H' by obtain⟨_,H',⟨rfl,O,Z,h3⟩,w⟩:=h;exact⟨H',w,O,Z,h3⟩
  refine IE fit WG w8 ZaO ZaO ZaO ?_
  have Rw:FC Tryz.prog gv 36 key.MI (oE 36 f (key.ps.zip [.agg (cS n)])) [] H1 (fun e u oT UP=>e=.normal/\u=jF (jF f 13 (.agg (cS n))) 5 (.ref H1.next 0)/\oT=[]/\UP=(H1.alloc (.cells [.int .i64 0,.int .i64 0,.int .i64 0] false)).set H1.next (.cells (cS n) false)):=by subst A;dsimp only[List.zip,List.zipWith,oE,gJ];simp only[↓zP,zJ,seval,oL (aW n)]
  refine jJ (fun e u oT UP h=>?_) Rw;obtain⟨rfl,rfl,rfl,rfl⟩:=h;have a7:Over H1 ((H1.alloc (.cells [.int .i64 0,.int .i64 0,.int .i64 0] false)).set H1.next (.cells (cS n) false)):=((Over.refl H1).alloc _).set (Ad _) _;have ga:((H1.alloc (.cells [.int .i64 0,.int .i64 0,.int .i64 0] false)).set H1.next (.cells (cS n) false)).get H1.next=some (.cells (cS n) false):=by rw[aB.aD,if_pos rfl]
  have aq:((H1.alloc (.cells [.int .i64 0,.int .i64 0,.int .i64 0] false)).set H1.next (.cells (cS n) false)).next=H1.next+1:=by simp
  refine⟨rfl,key,LF 36 f,(a7.same 6 A0).trans w8,?_⟩;generalize Oh:aB.set _ 6 _=t;have z0:t.get 0=some (.cells [.bK ta 3 (bU a)] false):=by rw[<-Oh,aB.aD,if_neg A1];exact(a7.same 0 A0).trans w2
  have z1:t.get 1=some (.cells [.bK tb 3 (bU b)] false):=by rw[<-Oh,aB.aD,if_neg A1];exact(a7.same 1 A0).trans R
  have zr:t.get H1.next=some (.cells (cS n) false):=by rw[<-Oh,aB.aD,if_neg A0];exact ga
  have zn:t.next=H1.next+1:=by rw[<-Oh,aB.bB];exact aq
  have z6:t.get 6=some (.loop key (LF 36 f) .busy):=by rw[<-Oh,aB.aD,if_pos rfl]
  have zo:∀j,j≠6->j<H1.next->t.get j=H1.get j:=fun j O Z=>by rw[<-Oh,aB.aD,if_neg O];exact a7.same j Z
  clear Oh Rw a7 ga aq;subst A;dsimp only;refine aM ?_;simp only[↓zP,zJ,seval,P,z0,zr,oL (aW n)];have T:=fun H=>qt (tag:=ta) an ha aK hM hn r ad H;have sb:=fun H=>qt (tag:=tb) ak hb aF hM hn r ab H;have eT:∀z,(cI z).length=18:=fun z=>by simp[cI,cK,cW]
  have F:(AV.bool false::AV.bool false::wC zs).length=18:=by simp[cK];rfl
  have b7:B*M<=2^62*2^18:=Az r hM
  have b6:3*(B*M)<iW.W^16:=by have :3*(2^62*2^18)<iW.W^16:=A1;omega
  have da:∀v∈a,(aH.dot n v).natAbs<=3*(B*M):=fun v J=>nR hn (ha v J);have db:∀v∈b,(aH.dot n v).natAbs<=3*(B*M):=fun v J=>nR hn (hb v J);have af:=da D (by rw[ad];simp);have ae:=db b0 (by rw[ab];simp)
  have cb:pP a b n=(decide (yU n (aH.dot n D) a<=zN n (aH.dot n b0) b)||decide (yU n (aH.dot n b0) b<=zN n (aH.dot n D) a)):=by simp only[pP,ad,ab,Ce]
  rw[cb];have aE:eJ (cI (zN n (aH.dot n D) a)) (some (zN n (aH.dot n D) a)):=.enc (by have :=Ld af da;omega);have wP:eJ (cI (yU n (aH.dot n D) a)) (some (yU n (aH.dot n D) a)):=.enc (by have :=LI af da;omega);have ag:eJ (cI (zN n (aH.dot n b0) b)) (some (zN n (aH.dot n b0) b)):=.enc (by have :=Ld ae db;omega);have AS:eJ (cI (yU n (aH.dot n b0) b)) (some (yU n (aH.dot n b0) b)):=.enc (by have :=LI ae db;omega);clear cb xR ay G;generalize zN n (aH.dot n D) a=p1 at *;generalize yU n (aH.dot n D) a=p2 at *;generalize zN n (aH.dot n b0) b=q1 at *;generalize yU n (aH.dot n b0) b=q2 at *;have g:¬(H1.next=0):=by omega
  have n1:¬(H1.next=1):=by omega
  have n2:¬(2=H1.next):=by omega
  have z2:t.get 2=some (.cells [.bool false] false):=(zo 2 A1 A0).trans C;refine eI (T _) ?_;simp only[↓zP,zJ,seval,Bm,Nat.left_eq_add,Hq,eT,F,oL F,zn,z1,zr,f3,oL (aW n),g];refine eI (sb _) ?_
  have BZ:∀x y:Int,decide (mH (some x) (some y)<=0)=decide (x<=y):=fun x y=>by rw[Bj];simp only[mH];split<;>(try split)<;>omega
  by_cases c1:p2<=q1
  . have d1:decide (mH (some p2) (some q1)<=0)=true:=by rw[BZ];exact Af c1
    simp only[↓zP,zJ,seval,Bm,Hq,eT,F,oL (eT p2),oL (eT q1),oL F,zn];refine eI (HR wP ag _) ?_;simp only[↓zP,zJ,seval,Bm,d1,f4,g,n1,zn,z2];have a6:(decide (p2<=q1)||decide (q2<=p1))=true:=(by simp[c1]);exact Zac
  have d1:decide (mH (some p2) (some q1)<=0)=false:=by rw[BZ];exact Ac c1
  simp only[↓zP,zJ,seval,Bm,Hq,eT,F,oL (eT p2),oL (eT q1),oL F,zn];refine eI (HR wP ag _) ?_;simp only[↓zP,zJ,seval,Bm,Hq,d1,eT,zn,oL (eT p1),oL (eT q2)];refine eI (HR AS aE _) ?_;by_cases X:q2<=p1
  . have q:decide (mH (some q2) (some p1)<=0)=true:=by rw[BZ];exact Af X
    simp only[↓zP,zJ,seval,Bm,q,f4,g,n1,zn,z2];have a6:(decide (p2<=q1)||decide (q2<=p1))=true:=(by simp[X]);exact Zac
  have q:decide (mH (some q2) (some p1)<=0)=false:=by rw[BZ];exact Ac X
  simp only[↓zP,zG,seval,q];generalize d:aB.set _ (H1.next+4) _=HZ;have hz:Over t HZ:=by subst d;exact(((((((((Over.refl t).alloc _).alloc _).set A0 _).set A0 _).alloc _).alloc _).set A0 _).set A0 _)
  clear d;have aj:=hz.le;have a6:(decide (p2<=q1)||decide (q2<=p1))=false:=by simp[c1,X]
  refine⟨rfl,_,_,(hz.same 6 A0).trans z6,by rw[a6];rfl,?_,by simp only[aB.bB];omega,fun j O Z=>?_⟩
  . rw[a6,if_neg A1]
    have E:∀(ob:eS) (j:Nat),j<6->(HZ.set 6 ob).get j=H1.get j:=fun ob j Y=>by rw[aB.aD,if_neg A0];exact(hz.same j A0).trans (zo j A0 A0)
    exact⟨by simp only[aB.bB];omega,(E _ 0 A1).trans w2,(E _ 1 A1).trans R,(E _ 2 A1).trans C,(E _ 3 A1).trans m,(E _ 4 A1).trans w6,(E _ 5 A1).trans w7,by rw[aB.aD,if_pos rfl]⟩
  by_cases j6:j=6
  . omega
  rw[aB.aD,if_neg j6];exact(hz.same j A0).trans (zo j j6 Z)
 obtain⟨He,QC,w⟩:=OJ (ta:=ta) (tb:=tb) b3 fa fb ea eb nU nW aA az aO lU lW (id:=6) (r1:=3) (r2:=4) (o1:=false) (o2:=false) I c (pP a b) xR ay eX (fun k H1 h=>by rw[yn];exact h.1) (by rw[yn];decide) (by rw[yn];decide) G.2.2.2.2.1 G.2.2.2.2.2.1 (fun k H' h=>⟨h.2.2.2.2.1,h.2.2.2.2.2.1⟩) G
 cases OL:(lX l p U W).any (pP a b) with
 |true=>
  rw[OL,if_pos rfl] at QC;obtain⟨w1,w2,R,k,s,C⟩:=QC;refine⟨_,He,_,_,_,w,C,fun L N=>?_⟩;obtain⟨e1,o⟩:=N;have b2:L.get 2=some (.cells [.bool true] false):=by rw[o,if_neg A1];exact w1
  have b5:L.get 5=some .AN:=by rw[o,if_neg A1];exact R
  refine⟨b5,[.bool true],?_,rfl⟩;simp only[↓zP,zR,seval,f4,b2]
 |false=>
  rw[OL,if_neg A1] at QC;obtain⟨w1,w2,R,C,m,w6,w7,w8⟩:=QC;refine⟨_,He,_,_,_,w,w8,fun L N=>?_⟩;obtain⟨e1,o⟩:=N;have b2:L.get 2=some (.cells [.bool false] false):=by rw[o,if_neg A1];exact C
  have b5:L.get 5=some .AN:=by rw[o,if_neg A1];exact w7
  show K f [.mark 5] L;apply hK;simp only[↓zP,zJ,seval,f4,b2];refine⟨by rw[aB.aD,if_neg A1];exact b5,[.bool false],?_,by rw[OL];rfl⟩;simp only[↓zP,zR,seval,f4]
end Go.Proofs.YtogfcjbgeebfkaaGreatDoor
namespace Go.Proofs.YtogfcjbgeebfkaaGreatDoor
open Go Go.Av Go.aH
theorem Qn(l:List aH.V):∃C,Ord l C:=by obtain⟨s,O,Z⟩:=xL (fun a b:aH.V=>¬jC b a) (fun {a b c} h h'=>by grind[jC]) (fun a b=>by grind[jC]) l;exact⟨dd s s.length,Zy Z _ (Ad _),fun v=>by rw[Pk s v _ (Ad _),Ap];grind⟩
noncomputable def SM (l:List aH.V):List aH.V:=Classical.choose (Qn l)
theorem zY(l:List aH.V):Ord l (SM l):=Kc (Qn l)
noncomputable def gG (C:List aH.V):List (aH.V×Int):=Classical.choose (pS.exists (fun i=>C.getD i V0) C.length)
theorem rR(C:List aH.V):pS (fun i=>C.getD i V0) C.length (gG C):=Kc (pS.exists (fun i=>C.getD i V0) C.length)
open Classical in
noncomputable def iX (C:List aH.V) (q:aH.V×Int):List Nat:=if h:∃L,Poly (fun i=>C.getD i V0) C.length q.1 q.2 L then Classical.choose h else []
variable{C:List aH.V}
theorem CS(h:C.Pairwise jC):MN (fun i=>C.getD i V0) C.length:=fun i j H Y=>by
 have O:C.getD i V0=C[i]:=by grind
 have Z:C.getD j V0=C[j]:=by grind
 simp only[O,Z];exact Ga.1 h i j (Cx H Y) Y H
theorem mI(h:C.Pairwise jC):wB C (gG C) (iX C) where
 fl:=rR C
 po q hq:=by
  have u:=((rR C).mem q).1 hq;have a:=Poly.exists (CS h) u.RZ;unfold iX
  grind
noncomputable def qC (l:List aH.V):Int:=Pd l (SM l) (gG (SM l)) (iX (SM l))
variable{l:List aH.V}
theorem Qo(h:l.Pairwise jC):SM l=l:=Ord.uniq (zY l) ⟨h,fun v=>Iff.rfl⟩
theorem rM(h:qC l=0):l.Pairwise jC/\SM l=l/\gG l≠[]/\(gG l).length<=64/\l.length<=64/\l≠[]/\∀v∈l,bT (2^18) v:=by
 unfold qC Pd at h;split at h
 . cases h
 rename_i O;have Z:jB (SM l) (gG (SM l)) (iX (SM l))=l:=Co fun c=>O ⟨h,c⟩;obtain⟨a1,y,Q⟩:=VG h;have M:=(zY l).SL
 have D:l.Pairwise jC:=by rw[<-Z];unfold jB;rw[Ev];refine Gf (R:=fun a b=>a<b) ?_ (List.Pairwise.filter _ Hw);intro a b I X j;exact CS M a b j (by simpa using(Fs.1 X).1)
 have z:=Qo D;have s:=QG (mI M) a1;rw[Z] at s;rw[z] at a1;refine⟨D,z,a1,?_,Q,s,?_⟩
 . unfold jO at h;rw[z] at h;split at h
   . cases h
   split at h
   . cases h
   split at h
   . cases h
   split at h
   . cases h
   omega
 unfold jO at h;split at h
 . cases h
 split at h
 . cases h
 rename_i X;intro v J;have r:l.all nr=true:=by simpa using X
 exact QI.1 (Bi.1 r v J)
theorem Pc:qC []=120:=by
 have h:SM []=[]:=Qo .nil;unfold qC Pd;rw[h]
 have w:gG []=[]:=by
  cases N:gG [] with
  |nil=>rfl
  |cons q r=>
   have :=((rR []).mem q).1 (by grind);obtain⟨k,E,_⟩:=this.lt
   grind
 rw[w];rfl
def IsE(l:List aH.V)(v:aH.V):Prop:=∃q:aH.V×Int,oR (fun i=>l.getD i V0) l.length q.1 q.2/\∃a b,Sd q.1 (fun i=>l.getD i V0) (iF (fun i=>l.getD i V0) l.length q.1 q.2) a b/\a∈iF (fun i=>l.getD i V0) l.length q.1 q.2/\a<b/\v=aH.sub (l.getD b V0) (l.getD a V0)
def IsD(a b:List aH.V)(n:aH.V):Prop:=(∃d,oR (fun i=>a.getD i V0) a.length n d)\/(∃d,oR (fun i=>b.getD i V0) b.length n d)\/∃u w,IsE a u/\IsE b w/\n=aH.bC u w/\n≠V0
open Classical in
noncomputable def rN (a b:List aH.V):Bool:=decide (∃n,IsD a b n/\pP a b n=true)
theorem qM{a b:List aH.V}:rN a b=true↔∃n,IsD a b n/\pP a b n=true:=by simp[rN]
end Go.Proofs.YtogfcjbgeebfkaaGreatDoor
