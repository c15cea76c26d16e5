/-
  Part of the proof of statement 7
-/
import Derived.Test.YtogfcjbgeebfkaaGreatDoorA21
import Derived.Test.YtogfcjbgeebfkaaGreatDoorA07
import Derived.Test.YtogfcjbgeebfkaaGreatDoorA20
import Derived.Test.YtogfcjbgeebfkaaGreatDoorA22
import Derived.Test.YtogfcjbgeebfkaaGreatDoorA17
import Derived.Test.YtogfcjbgeebfkaaGreatDoorA19
set_option linter.unusedVariables false
set_option linter.unusedSimpArgs false
set_option maxRecDepth 100000
set_option maxHeartbeats 16000000
namespace Go.Proofs.YtogfcjbgeebfkaaGreatDoor
open Go Go.Av Go.lP
attribute [local congr] aY aS aV aQ bD aX aW aH bE
attribute [local irreducible] FC bT eX
def AX(x y:Int):Int×Int:=if(!decide (x.tmod y=0)&&(decide (x.tmod y<0) != decide (y<0)))=true then(x.tdiv y -1,x.tmod y+y) else(x.tdiv y,x.tmod y)
theorem tdiv_le(x y:Int):(x.tdiv y).natAbs<=x.natAbs:=by rw[Int.natAbs_tdiv];exact Gn _ _
theorem jv(x:Int){y:Int}(h:y≠0):(x.tmod y).natAbs<y.natAbs:=by rw[Int.natAbs_tmod];exact Bz _ A0
theorem vL{a b:List AV}{x y:Int}(ha:dS a (some x))(hb:dS b (some y))(Xt: -2^63<x)(hx1:x<2^63)(PE: -2^63<y)(hy1:y<2^63)(hy:y≠0)(H:aA):
 Sg 196 [.agg a,.agg b] H (.ret (.jZ [.agg (cI (AX x y).1),.agg (cI (AX x y).2)])) H:=by
 refine Sp aBy Zaj Zak ?_ H;unfold yy;dsimp only;have hg:=pM ha hb;have hs:=qR hb;have h1:=wJ ha;have h2:=wJ hb;have e1:eT (some x)=(x,true):=by simp only[eT];rw[if_pos A0]
 have e2:eT (some y)=(y,true):=by simp only[eT];rw[if_pos A0]
 rw[e1] at h1;rw[e2] at h2
 have hsg:(fV (some y)==0)=false:=by simp only[fV];split<;>(try split)<;>first|rfl|omega
 have hq:=tdiv_le x y;have hr:=jv x hy;have wq:IntKind.i64.wrap (x.tdiv y)=x.tdiv y:=wrap_i64 A0 A0;have wr:IntKind.i64.wrap (x.tmod y)=x.tmod y:=wrap_i64 A0 A0;have la:=ha.len;have lb:=hb.len;have nx:(x != -9223372036854775808)=true:=Gw.2 A0;have ny:(y != -9223372036854775808)=true:=Gw.2 A0;refine bX ?_;refine Ty ?_;refine bY ?_;have nY:(AV.bool false::AV.bool false::wC zs).length=18:=by simp[bW];rfl
 have dA:∀z,(cI z).length=18:=fun z=>cJ z;generalize hX:((((aA.mk 0 .nil).alloc _).alloc _).alloc _).alloc _=HA;have g0:HA.get 0=some (.cells a false):=by subst hX;simp only[zI,seval]
 have g1:HA.get 1=some (.cells b false):=by subst hX;simp only[zI,seval]
 have g2:HA.get 2=some (.cells (AV.bool false::AV.bool false::wC zs) false):=by subst hX;simp only[zI,seval]
 have g3:HA.get 3=some (.cells (AV.bool false::AV.bool false::wC zs) false):=by subst hX;simp only[zI,seval]
 clear hX;refine bX ?_;simp only[↓zP,zJ,seval,g0,g1,oL la,oL lb];refine bO (hg _) ?_;simp only[↓zP,zJ,seval,g1,oL lb,An,Du];refine bO (hs _) ?_;simp only[↓zP,zG,seval,hsg];refine bY ?_;refine aT fun K hK=>?_;refine bX ?_;simp only[↓zP,zJ,seval,g0,oL la];refine bO (h1 _) ?_;refine Ty ?_;refine bY ?_;clear hK;refine cY fun f hf=>?_;have f3:f 3=.ref 1 0:=by subst hf;simp only[zB,seval]
 have f4:f 4=.ref 2 0:=by subst hf;simp only[zB,seval]
 have f5:f 5=.ref 3 0:=by subst hf;simp only[zB,seval]
 have f6:f 6=.int .i64 x:=by subst hf;simp only[zB,seval]
 have f7:f 7=.bool true:=by subst hf;simp only[zB,seval]
 clear hf;refine bX ?_;simp only[↓zP,zG,seval,f6,f7,nx];refine bY ?_;simp only[↓zP,zJ,seval,f3,g1,oL lb];refine bO (h2 _) ?_;simp only[↓zP,zJ,seval,ny];refine cY fun f' hf=>?_;have Nf:=Ks hf f4;have Ng:=Ks hf f5;have f6':=Ks hf f6;have f8':f' 8=.int .i64 y:=by subst hf;simp only[zB,seval]
 clear hf f3 f4 f5 f6 f7;refine Dz ?_
 have Xj:AX x y=if(!decide (x.tmod y=0)&&(decide (x.tmod y<0) != decide (y<0)))=true then(x.tdiv y -1,x.tmod y+y) else(x.tdiv y,x.tmod y):=rfl
 have oq:=tJ (z:=x.tdiv y) A0 A0;have or:=tJ (z:=x.tmod y) A0 A0;have oq1:∀H,Sg 51 [.int .i64 (x.tdiv y -1)] H (.ret (.agg (cI (x.tdiv y -1)))) H:=tJ A0 A0;have wq1:IntKind.i64.wrap (x.tdiv y -1)=x.tdiv y -1:=wrap_i64 A0 A0;by_cases c0:x.tmod y=0
 . have hn:(x.tmod y != 0)=false:=by simp[c0]
   rw[Aj c0] at Xj;simp only[↓zP,zJ,seval,zD,f6',f8',hy,wq,hn];refine bO (oq _) ?_;refine Tz ?_;refine bO (or _) ?_;exact Zai
 have hn:(x.tmod y != 0)=true:=Gw.2 c0;rw[Ad c0] at Xj;by_cases cA:x.tmod y<0
 . have hA:=Aj cA;rw[hA] at Xj;by_cases cB:y<0
   . have hB:=Aj cB;rw[hB] at Xj;simp only[↓zP,zJ,seval,zD,f6',f8',hy,wq,hn,hA,hB];refine bO (oq _) ?_;refine Tz ?_;refine bO (or _) ?_;exact Zai
   have hB:=Ad cB;rw[hB] at Xj;have or1:∀H,Sg 51 [.int .i64 (x.tmod y+y)] H (.ret (.agg (cI (x.tmod y+y)))) H:=tJ A0 A0;have wr1:IntKind.i64.wrap (x.tmod y+y)=x.tmod y+y:=wrap_i64 A0 A0;simp only[↓zP,zJ,seval,zD,f6',f8',hy,wq,hn,hA,hB,wq1,wr1];refine bO (oq1 _) ?_;refine Tz ?_;refine bO (or1 _) ?_;exact Zai
 have hA:=Ad cA;rw[hA] at Xj;by_cases cB:y<0
 . have hB:=Aj cB;rw[hB] at Xj;have or1:∀H,Sg 51 [.int .i64 (x.tmod y+y)] H (.ret (.agg (cI (x.tmod y+y)))) H:=tJ A0 A0;have wr1:IntKind.i64.wrap (x.tmod y+y)=x.tmod y+y:=wrap_i64 A0 A0;simp only[↓zP,zJ,seval,zD,f6',f8',hy,wq,hn,hA,hB,wq1,wr1];refine bO (oq1 _) ?_;refine Tz ?_;refine bO (or1 _) ?_;exact Zai
 have hB:=Ad cB;rw[hB] at Xj;simp only[↓zP,zJ,seval,zD,f6',f8',hy,wq,hn,hA,hB];refine bO (oq _) ?_;refine Tz ?_;refine bO (or _) ?_;exact Zai
theorem KW{a b:List AV}{x y:Int}(ha:dS a (some x))(hb:dS b (some y))(Xt: -2^63<x)(hx1:x<2^63)(PE: -2^63<y)(hy1:y<2^63)(hy:y≠0)(H:aA):
 Sg 108 [.agg a,.agg b] H (.ret (.agg (cI (AX x y).1))) H:=by
 refine Sp aNc Zaj Zak ?_ H;unfold aGd;dsimp only;have hd:=vL ha hb Xt hx1 PE hy1 hy;have la:=ha.len;have lb:=hb.len;have nY:(AV.bool false::AV.bool false::wC zs).length=18:=by simp[bW];rfl
 have dA:∀z,(cI z).length=18:=fun z=>cJ z;generalize AX x y=d at *;exact Zae
theorem kq{a b:List AV}{x y:Int}(ha:dS a (some x))(hb:dS b (some y))(Xt: -2^63<x)(hx1:x<2^63)(PE: -2^63<y)(hy1:y<2^63)(hy:y≠0)(H:aA):
 Sg 109 [.agg a,.agg b] H (.ret (.agg (cI (AX x y).2))) H:=by
 refine Sp aNd Zaj Zak ?_ H;unfold aGe;dsimp only;have hd:=vL ha hb Xt hx1 PE hy1 hy;have la:=ha.len;have lb:=hb.len;have nY:(AV.bool false::AV.bool false::wC zs).length=18:=by simp[bW];rfl
 have dA:∀z,(cI z).length=18:=fun z=>cJ z;generalize AX x y=d at *;exact Zae
def Ue(x y:Int):Bool:=decide (-2^63<x)&&decide (x<2^63)&&decide (-2^63<y)&&decide (y<2^63)&& !decide (y=0)
def aKf(g:Int×Int->AV):List AV->Option AV
 |[.agg a,.agg b]=>match Ob a,Ob b with
  |some (some x),some (some y)=>match Ue x y with
   |true=>some (g (AX x y))
   |false=>none
  |_,_=>none
 |_=>none
theorem jd{g:Int×Int->AV}{f:FuncId}(hS:∀a b x y,dS a (some x)->dS b (some y)->-2^63<x->x<2^63->-2^63<y->y<2^63->y≠0->∀H,Sg f [.agg a,.agg b] H (.ret (g (AX x y))) H){args:List AV}{v:AV}(h:aKf g args=some v)(H:aA):Sg f args H (.ret v) H:=by
 unfold aKf at h;split at h
 . rename_i a b;split at h
   . rename_i x y hx hy;split at h
     . rename_i hc;cases h;simp only[Ue,Ak,Cs,Bf,Cb] at hc;obtain⟨⟨⟨⟨c1,c2⟩,c3⟩,c4⟩,c5⟩:=hc;exact hS a b x y (sL hx) (sL hy) c1 c2 c3 c4 c5 H
     cases h
   cases h
 cases h
def aKh(f:FuncId)(args:List AV):Option AV:=
 match Nat.beq f 108 with
 |true=>aKf (fun d=>.agg (cI d.1)) args
 |false=>match Nat.beq f 109 with
 |true=>aKf (fun d=>.agg (cI d.2)) args
 |false=>aWw f args
theorem je{f:FuncId}{args:List AV}{v:AV}(h:aKh f args=some v)(H:aA):Sg f args H (.ret v) H:=by
 unfold aKh at h;split at h
 . rename_i hf;obtain rfl:=Bd hf;exact jd (fun a b x y ha hb h1 h2 h3 h4 h5 H=>KW ha hb h1 h2 h3 h4 h5 H) h H
 split at h
 . rename_i hf;obtain rfl:=Bd hf;exact jd (fun a b x y ha hb h1 h2 h3 h4 h5 H=>kq ha hb h1 h2 h3 h4 h5 H) h H
 exact aKi h H
theorem Oe{x y q r:Int}(hy:y≠0)(h:r+y*q=x)(h1:0<y->0<=r/\r<y)(h2:y<0->y<r/\r<=0):x.fdiv y=q/\x.fmod y=r:=by
 rcases Jv hy with hn|hp
 . exact(Int.fdiv_fmod_unique' hn).2 ⟨h,(h2 hn).1,(h2 hn).2⟩
 exact(Int.fdiv_fmod_unique hp).2 ⟨h,(h1 hp).1,(h1 hp).2⟩
theorem aHu{x y:Int}(hy:y≠0):AX x y=(x.fdiv y,x.fmod y):=by
 have e:=Int.tmod_add_mul_tdiv x y;have l:=jv x hy;have e1:y*(x.tdiv y -1)=y*x.tdiv y -y:=by rw[Int.mul_sub,Int.mul_one]
 obtain⟨q,hq⟩:∃q,x.tdiv y=q:=⟨_,rfl⟩;obtain⟨r,hr⟩:∃r,x.tmod y=r:=⟨_,rfl⟩;unfold AX;rw[hq] at e e1 ⊢;rw[hr] at e l ⊢
 have key:∀q' r',r'+y*q'=x->(0<y->0<=r'/\r'<y)->(y<0->y<r'/\r'<=0)->(q',r')=(x.fdiv y,x.fmod y):=fun q' r' a b c=>by obtain⟨h1,h2⟩:=Oe hy a b c;rw[h1,h2]
 by_cases c0:r=0
 . simp only[c0,Fv,Ih,Jx,Au,Ca];subst c0;exact key _ _ e A0 A0
 by_cases c1:r<0<;>by_cases c2:y<0<;>simp only[c0,c1,c2,Fv,Hi,Fy,Ct,Au,Ca,if_true,Hv,Bool.bne_true,Bool.bne_false]<;>refine key _ _ ?_ ?_ ?_<;>omega
theorem Ve{x y:Int}(hy:y≠0):
 x.fdiv y=(if x.natAbs%y.natAbs≠0/\decide (x<0)≠decide (y<0) then sg (decide (x<0) != decide (y<0)) (x.natAbs / y.natAbs) -1 else sg (decide (x<0) != decide (y<0)) (x.natAbs / y.natAbs))/\
 x.fmod y=sg (decide (y<0)) (if x.natAbs%y.natAbs≠0/\decide (x<0)≠decide (y<0) then y.natAbs -x.natAbs%y.natAbs else x.natAbs%y.natAbs):=by
 have e:=Jg x.natAbs y.natAbs;have l:=Bz x.natAbs (show 0<y.natAbs by omega);generalize x.natAbs / y.natAbs=q at *;generalize x.natAbs%y.natAbs=r at *;have e2:(r:Int)+(y.natAbs:Int)*(q:Int)=(x.natAbs:Int):=by exact_mod_cast e
 refine Oe hy ?_ ?_ ?_
 . have PD:(x.natAbs:Int)=if x<0 then -x else x:=by split<;>omega
   have hy':(y.natAbs:Int)=if y<0 then -y else y:=ZaC;rw[PD,hy'] at e2;by_cases h1:x<0<;>by_cases h2:y<0<;>simp only[h1,h2,if_true,Ca,Hh] at e2<;>simp only[h1,h2,Fv,Hi,sg,ne_eq,not_true,Fz,and_false,Ki,Ca,if_true,Bool.true_eq_false,Au,Hv,Bool.bne_true,Bool.bne_false,Fy]<;>(try split)<;>(try simp only[Int.mul_sub,Jf,Int.mul_one])<;>omega
 . intro h;by_cases h1:x<0<;>simp only[h1,show ¬y<0 by omega,Fv,Hi,sg,ne_eq,not_true,Fz,and_false,Ki,Ca,Bool.true_eq_false,Au]<;>(try split)<;>omega
 intro h;by_cases h1:x<0<;>simp only[h1,h,Fv,Hi,sg,ne_eq,not_true,Fz,and_false,Ki,Ca,if_true,Au]<;>(try split)<;>omega
def rW:Option Int->Option Int->Option Int×Option Int
 |some x,some y=>if y=0 then(none,none) else(some (x.fdiv y),some (x.fmod y))
 |_,_=>(none,none)
theorem BD{x y:Int}(hy:y≠0):(x.fdiv y).natAbs<=x.natAbs/\(x.fmod y).natAbs<y.natAbs:=by
 obtain⟨h1,h2⟩:=Ve (x:=x) hy;have l:=Bz x.natAbs (show 0<y.natAbs by omega);have e:=Jg x.natAbs y.natAbs;have m:x.natAbs / y.natAbs<=y.natAbs*(x.natAbs / y.natAbs):=Hn _ A0;rw[h1,h2];generalize x.natAbs / y.natAbs=q at *;generalize x.natAbs%y.natAbs=r at *;rw[iS];unfold sg;constructor
 . split
   . rename_i h;rw[if_pos (by simpa using h.2)];omega
   split<;>omega
 split<;>omega
theorem dS.aHv{x y:Option Int}{v:List AV}(h:dS v x):dS (cO (rW x y).1) (rW x y).1:=by
 cases x with
 |none=>exact .bad
 |some x=>cases y with
  |none=>exact .bad
  |some y=>
   simp only[rW];split
   . exact .bad
   rename_i hy;exact .enc (Ce (BD hy).1 h.fit)
theorem dS.aYc{x y:Option Int}{v:List AV}(h:dS v y):dS (cO (rW x y).2) (rW x y).2:=by
 cases x with
 |none=>exact .bad
 |some x=>cases y with
  |none=>exact .bad
  |some y=>
   simp only[rW];split
   . exact .bad
   rename_i hy;exact .enc (Cm (BD hy).2 h.fit)
theorem AY{a b:List AV}{x y:Option Int}(ha:dS a x)(hb:dS b y)(h:(x.isSome&&y.isSome)=false\/y=some 0)(H:aA):
 Sg 196 [.agg a,.agg b] H (.ret (.jZ [.agg uD,.agg uD])) H:=by
 refine So aBy Zaj ?_ H;unfold yy;dsimp only;have hg:=pM ha hb;have hs:=qR hb;have la:=ha.len;have lb:=hb.len;have ZO:=oL (show uD.length=18 from mC none);refine bX ?_;refine Ty ?_;refine bY ?_;have nY:(AV.bool false::AV.bool false::wC zs).length=18:=by simp[bW];rfl
 generalize hX:((((aA.mk 0 .nil).alloc _).alloc _).alloc _).alloc _=HA;have g0:HA.get 0=some (.cells a false):=by subst hX;simp only[zI,seval]
 have g1:HA.get 1=some (.cells b false):=by subst hX;simp only[zI,seval]
 have g2:HA.get 2=some (.cells (AV.bool false::AV.bool false::wC zs) false):=by subst hX;simp only[zI,seval]
 have g3:HA.get 3=some (.cells (AV.bool false::AV.bool false::wC zs) false):=by subst hX;simp only[zI,seval]
 clear hX;have gun:∀b A B,fD aB b A B=B:=fun _ _ _=>rfl;refine aT fun K hK=>?_;simp only[↓zP,zJ,seval,g0,g1,oL la,oL lb];refine bO (hg _) ?_;generalize hc:(x.isSome&&y.isSome)=c at *;cases c
 . refine Ty ?_;exact Za0
 obtain rfl:y=some 0:=by
  rcases h with h|h
  . cases h
  exact h
 simp only[↓zP,zJ,seval,g1,oL lb];refine bO (hs _) ?_;simp only[↓zP,zG,seval,show(fV (some 0)==0)=true from rfl];exact Za0
theorem Te{x y:Int}(hx:x.natAbs<W^16)(hyf:y.natAbs<W^16)(hy:y≠0)(hl:¬(-2^63<x/\x<2^63/\-2^63<y/\y<2^63))(H:aA):
 Sg 196 [.agg (cI x),.agg (cI y)] H (.ret (.jZ [.agg (cI (x.fdiv y)),.agg (cI (x.fmod y))])) H:=by
 refine Sp aBy Zak Zak ?_ H;unfold yy;dsimp only;have hg:=pM (.enc hx) (.enc hyf);have hs:=qR (.enc hyf);have h1:=wJ (.enc hx);have h2:=wJ (.enc hyf);have la:=cJ x;have lb:=cJ y
 have hsg:(fV (some y)==0)=false:=by simp only[fV];split<;>(try split)<;>first|rfl|omega
 have lx:=iL (.aL x.natAbs);have ly:=iL (.aL y.natAbs);have dx:(cI x).drop 2=wC (aL 16 x.natAbs):=rfl;have dy:(cI y).drop 2=wC (aL 16 y.natAbs):=rfl;have n0:(cI x).getD 1 aB=.bool (decide (x<0)):=rfl;have n1:(cI y).getD 1 aB=.bool (decide (y<0)):=rfl;have dA:∀z,(cI z).length=18:=fun z=>cJ z;have gun:∀b A B,fD aB b A B=B:=fun _ _ _=>rfl;have hq:=Mv hx hyf (show 0<y.natAbs by omega);have hW:W=4294967296:=rfl;obtain⟨dl1,dl2⟩:=Ve (x:=x) hy;have hql:x.natAbs / y.natAbs<=x.natAbs:=Gn _ _;have Tq:x.natAbs%y.natAbs<y.natAbs:=Bz _ A0;have hqf:=(BD (x:=x) hy).1;generalize hQ:x.natAbs / y.natAbs=q at *;generalize hR:x.natAbs%y.natAbs=r at *;have lq:=iL (.aL q);have lr:=iL (.aL r);have hrz:decide (aL 16 r=zs)=decide (r=0):=by rw[Bk];exact rI A0
 refine bX ?_;refine Ty ?_;refine bY ?_;have nY:(AV.bool false::AV.bool false::wC zs).length=18:=by simp[bW];rfl
 generalize hX:((((aA.mk 0 .nil).alloc _).alloc _).alloc _).alloc _=HA;have g0:HA.get 0=some (.cells (cI x) false):=by subst hX;simp only[zI,seval]
 have g1:HA.get 1=some (.cells (cI y) false):=by subst hX;simp only[zI,seval]
 have g2:HA.get 2=some (.cells (AV.bool false::AV.bool false::wC zs) false):=by subst hX;simp only[zI,seval]
 have g3:HA.get 3=some (.cells (AV.bool false::AV.bool false::wC zs) false):=by subst hX;simp only[zI,seval]
 have gn:HA.next=4:=by subst hX;rfl
 clear hX;refine bX ?_;simp only[↓zP,zJ,seval,g0,g1,oL la,oL lb];refine bO (hg _) ?_;simp only[↓zP,zJ,seval,g1,oL lb,An,Du];refine bO (hs _) ?_;simp only[↓zP,zG,seval,hsg];refine bY ?_;refine aT fun K hK=>?_
 have key:∀f:cW,f 2=.ref 0 0->f 3=.ref 1 0->f 4=.ref 2 0->f 5=.ref 3 0->K f [] HA:=by
  intro f f2 f3 f4 f5;apply hK;clear hK K;refine bX ?_;simp only[↓zP,zJ,seval,f2,f3,g0,g1,oL la,oL lb,dx,dy,lx,ly];refine bO (hq _) ?_;simp only[↓zP,zJ,seval,gn,lq,lr];refine bY ?_;generalize hX:aA.set _ 5 _=HB
  replace g1:HB.get 1=some (.cells (cI y) false):=by subst hX;simp only[zI,seval,gn,g1]
  replace g0:HB.get 0=some (.cells (cI x) false):=by subst hX;simp only[zI,seval,gn,g0]
  replace g2:HB.get 2=some (.cells (AV.bool false::AV.bool false::wC zs) false):=by subst hX;simp only[zI,seval,gn,g2]
  replace g3:HB.get 3=some (.cells (AV.bool false::AV.bool false::wC zs) false):=by subst hX;simp only[zI,seval,gn,g3]
  have g4:HB.get 4=some (.cells (wC (aL 16 q)) false):=by subst hX;simp only[zI,seval]
  have g5:HB.get 5=some (.cells (wC (aL 16 r)) false):=by subst hX;simp only[zI,seval]
  replace gn:HB.next=6:=by subst hX;simp only[zI,seval,gn]
  clear hX HA;refine cY fun f' hf=>?_;have k2:=Ks hf f2;have k3:=Ks hf f3;have k4:=Ks hf f4;have k5:=Ks hf f5;have k12:f' 12=.ref 4 0:=by subst hf;simp only[zB,seval]
  have gg:f' 13=.ref 5 0:=by subst hf;simp only[zB,seval]
  clear hf f2 f3 f4 f5 f;have sq:=iH (n:= !(decide (x<0)==decide (y<0))) (m:=q) A0 (z:=sg (decide (x<0) != decide (y<0)) q) rfl;refine bX ?_;simp only[↓zP,zJ,seval,k2,k3,k12,g0,g1,g4,la,lb,n0,n1,lq];refine bO (sq _) ?_;generalize hq0:sg (decide (x<0) != decide (y<0)) q=q0 at *;simp only[↓zP,zJ,seval,gn,dA,nY,oL nY];refine bY ?_;generalize hX:aA.set _ 6 _=HC
  replace g1:HC.get 1=some (.cells (cI y) false):=by subst hX;simp only[zI,seval,gn,g1]
  replace g0:HC.get 0=some (.cells (cI x) false):=by subst hX;simp only[zI,seval,gn,g0]
  replace g2:HC.get 2=some (.cells (AV.bool false::AV.bool false::wC zs) false):=by subst hX;simp only[zI,seval,gn,g2]
  replace g3:HC.get 3=some (.cells (AV.bool false::AV.bool false::wC zs) false):=by subst hX;simp only[zI,seval,gn,g3]
  replace g5:HC.get 5=some (.cells (wC (aL 16 r)) false):=by subst hX;simp only[zI,seval,gn,g5]
  have g6:HC.get 6=some (.cells (cI q0) false):=by subst hX;simp only[zI,seval]
  clear hX gn g4 HB;refine cY fun f hf=>?_
  replace k2:f 2=.ref 0 0:=by subst hf;simp only[zB,seval];exact k2
  replace k3:f 3=.ref 1 0:=by subst hf;simp only[zB,seval];exact k3
  replace k4:f 4=.ref 2 0:=by subst hf;simp only[zB,seval];exact k4
  replace k5:f 5=.ref 3 0:=by subst hf;simp only[zB,seval];exact k5
  replace gg:f 13=.ref 5 0:=by subst hf;simp only[zB,seval];exact gg
  have k14:f 14=.ref 6 0:=by subst hf;simp only[zB,seval]
  clear hf k12 f';refine aT fun K hK=>?_
  have fin:∀(f:cW) (HD:aA) (rr:Nat),x.fmod y=sg (decide (y<0)) rr->rr<W^16->f 3=.ref 1 0->f 4=.ref 2 0->f 5=.ref 3 0->f 13=.ref 5 0->f 14=.ref 6 0->HD.get 1=some (.cells (cI y) false)->
   HD.get 2=some (.cells (AV.bool false::AV.bool false::wC zs) false)->HD.get 3=some (.cells (AV.bool false::AV.bool false::wC zs) false)->HD.get 5=some (.cells (wC (aL 16 rr)) false)->HD.get 6=some (.cells (cI (x.fdiv y)) false)->K f [] HD:=by
   intro f HD rr hrr hrf k3 k4 k5 gg k14 g1 g2 g3 g5 g6;apply hK;clear hK K;have lrr:=iL (.aL rr);have sr:=iH (n:=decide (y<0)) hrf hrr;refine bX ?_;refine Dz ?_;simp only[↓zP,zJ,seval,zD,k3,gg,k14,g1,g5,g6,lb,n1,lrr,oL (dA _)];refine dM (sr _) ?_;simp only[↓zP,zJ,seval,zD,k4,k5,g2,g3,dA,nY,oL nY];refine bY ?_;refine Tx ?_;refine⟨rfl,_,by simp only[↓zP,zR,seval,k4,k5,dA,oL (dA _)];rfl,?_⟩;rfl
  clear hK;by_cases c0:r=0
  . have e0:(!decide (aL 16 r=zs))=false:=by rw[hrz,Aj c0];rfl
    rw[if_neg (fun h=>h.1 c0)] at dl1 dl2;simp only[↓zP,zJ,seval,gg,g5,lr,e0];refine fin _ HC r dl2 A0 ?_ ?_ ?_ ?_ ?_ g1 g2 g3 g5 (by rw[dl1];exact g6)<;>simp only[zB,seval,k3,k4,k5,gg,k14]
  have e0:(!decide (aL 16 r=zs))=true:=by rw[hrz,Ad c0];rfl
  by_cases c1:decide (x<0)=decide (y<0)
  . have e1:(!(decide (x<0)==decide (y<0)))=false:=by rw[c1,Iy];rfl
    rw[if_neg (fun h=>h.2 c1)] at dl1 dl2;simp only[↓zP,zJ,seval,k2,k3,gg,g0,g1,g5,lr,la,lb,n0,n1,e0,e1];refine fin _ HC r dl2 A0 ?_ ?_ ?_ ?_ ?_ g1 g2 g3 g5 (by rw[dl1];exact g6)<;>simp only[zB,seval,k3,k4,k5,gg,k14]
  have e1:(!(decide (x<0)==decide (y<0)))=true:=by rw[beq_false_of_ne c1];rfl
  rw[if_pos ⟨c0,c1⟩] at dl1 dl2;have o1:=tJ (z:=1) A1 A1;have q0l:q0.natAbs<=x.natAbs:=by rw[<-hq0,iS];exact hql
  have sb:=YG (.enc (show q0.natAbs<W^16 by omega)) (.enc (show(1:Int).natAbs<W^16 by decide))
  have BJ:vJ (some q0) (NR (some 1))=some (x.fdiv y):=by show norm (q0+ -1)=_;rw[dl1];unfold norm;rw[if_pos (by rw[<-Ju,<-dl1];omega)];rfl
  rw[BJ] at sb;have mn:=PZ hyf (show r<=y.natAbs by omega);have lm:=iL (.aL (y.natAbs -r));have hd2:(cI y).drop 2=wC (aL 16 y.natAbs):=rfl;simp only[↓zP,zJ,seval,k2,k3,gg,g0,g1,g5,lr,la,lb,n0,n1,e0,e1];refine Dz ?_;simp only[↓zP,zJ,seval,zD,k14,g6,oL (dA _)];refine dM (o1 _) ?_;refine dM (sb _) ?_;simp only[↓zP,zJ,seval,zD,k3,gg,g1,g5,lb,hd2,ly,lr];refine dM (mn _) ?_;simp only[↓zP,zJ,seval,zD,gg,k14,g5,g6,lm,lr,dA,oL (dA _)];refine fin _ _ (y.natAbs -r) dl2 A0 ?_ ?_ ?_ ?_ ?_ ?_ ?_ ?_ ?_ ?_
  . simp only[zB,seval,k3]
  . simp only[zB,seval,k4]
  . simp only[zB,seval,k5]
  . simp only[zB,seval,gg]
  . simp only[zB,seval,k14]
  . simp only[zI,seval,g1]
  . simp only[zI,seval,g2]
  . simp only[zI,seval,g3]
  . simp only[zI,seval]
  simp only[zI,seval];rfl
 clear hK;refine bX ?_;simp only[↓zP,zJ,seval,g0,oL la];refine bO (h1 _) ?_;refine Ty ?_;refine bY ?_;refine cY fun f hf=>?_;have f2:f 2=.ref 0 0:=by subst hf;simp only[zB,seval]
 have f3:f 3=.ref 1 0:=by subst hf;simp only[zB,seval]
 have f4:f 4=.ref 2 0:=by subst hf;simp only[zB,seval]
 have f5:f 5=.ref 3 0:=by subst hf;simp only[zB,seval]
 have f6:f 6=.int .i64 (eT (some x)).1:=by subst hf;simp only[zB,seval]
 have f7:f 7=.bool (eT (some x)).2:=by subst hf;simp only[zB,seval]
 clear hf;by_cases cx: -2^63<x/\x<2^63
 . have e1:eT (some x)=(x,true):=by simp only[eT];rw[if_pos A0]
   have nx:(x != -9223372036854775808)=true:=Gw.2 A0;rw[e1] at f6 f7;simp only[↓zP,zJ,seval,f6,f7,nx,f3,g1,oL lb];refine bO (h2 _) ?_;refine Ty ?_;by_cases cy: -2^63<=y/\y<2^63
   . have e2:eT (some y)=(y,true):=(by simp only[eT];rw[if_pos A0]);have ny:(y != -9223372036854775808)=false:=Zaf;simp only[zG,seval,e2,ny];exact ZaU
   have e2:eT (some y)=(0,false):=(by simp only[eT];rw[if_neg A0]);simp only[zG,seval,e2];exact ZaU
 by_cases cx2: -2^63<=x/\x<2^63
 . have e2:eT (some x)=(x,true):=by simp only[eT];rw[if_pos A0]
   have nx:(x != -9223372036854775808)=false:=Zaf;rw[e2] at f6 f7;simp only[↓zP,zG,seval,f6,f7,nx];exact ZaU
 have e2:eT (some x)=(0,false):=by simp only[eT];rw[if_neg A0]
 rw[e2] at f6 f7;simp only[↓zP,zG,seval,f7];exact ZaU
theorem Of{a b:List AV}{x y:Option Int}(ha:dS a x)(hb:dS b y)(H:aA):
 Sg 196 [.agg a,.agg b] H (.ret (.jZ [.agg (cO (rW x y).1),.agg (cO (rW x y).2)])) H:=by
 cases x with
 |none=>exact AY ha hb (.inl rfl) H
 |some x=>cases y with
  |none=>exact AY ha hb (.inl rfl) H
  |some y=>
   simp only[rW];by_cases hy:y=0
   . rw[if_pos hy];exact AY ha hb (.inr (by rw[hy])) H
   rw[if_neg hy];by_cases hs: -2^63<x/\x<2^63/\-2^63<y/\y<2^63
   . have :=vL ha hb hs.1 hs.2.1 hs.2.2.1 hs.2.2.2 hy H;rw[aHu hy] at this;exact this
   obtain⟨rfl,hx⟩:=ha.some;obtain⟨rfl,hyf⟩:=hb.some;exact Te hx hyf hy hs H
theorem KV{a b:List AV}{x y:Option Int}(ha:dS a x)(hb:dS b y)(H:aA):
 Sg 108 [.agg a,.agg b] H (.ret (.agg (cO (rW x y).1))) H:=by
 refine So aNc Zaj ?_ H;unfold aGd;dsimp only;have hd:=Of ha hb;have la:=ha.len;have lb:=hb.len;have nY:(AV.bool false::AV.bool false::wC zs).length=18:=by simp[bW];rfl
 have dA:∀z,(cO z).length=18:=fun z=>mC z;generalize rW x y=d at *;exact Zae
theorem yi{a b:List AV}{x y:Option Int}(ha:dS a x)(hb:dS b y)(H:aA):
 Sg 109 [.agg a,.agg b] H (.ret (.agg (cO (rW x y).2))) H:=by
 refine So aNd Zaj ?_ H;unfold aGe;dsimp only;have hd:=Of ha hb;have la:=ha.len;have lb:=hb.len;have nY:(AV.bool false::AV.bool false::wC zs).length=18:=by simp[bW];rfl
 have dA:∀z,(cO z).length=18:=fun z=>mC z;generalize rW x y=d at *;exact Zae
theorem XV{z:Int}(h:z.natAbs<2^64):aJ z.natAbs 1*4294967296+aJ z.natAbs 0=z.natAbs:=by
 have hW:W=4294967296:=rfl;have h2:aJ z.natAbs 0=z.natAbs%W:=by simp[aJ]
 have h3:aJ z.natAbs 1=z.natAbs / W:=by unfold aJ;rw[Nat.pow_one,hW,Bn A0]
 rw[h2,h3,Bx];exact Eh _ _
theorem qh{x y B:Nat}(hx:x<B)(hy:y<B):Nat.gcd x y<B:=by
 rcases Ho x with h|h
 . subst h;rw[Nat.gcd_zero_left];exact hy
 exact Ce (Nat.gcd_le_left _ h) hx
theorem aEy{a:Nat}(h:a<2^64):sz a<=2:=by
 rcases Nt 16 a with h0|h0
 . unfold sz;omega
 refine Nat.not_lt.1 fun h3=>h0 ?_;unfold sz at h3;unfold aJ;have :W^2<=W^(jq 16 a -1):=Ck A1 A0;have hW:W^2=2^64:=rfl;rw[Dn A0];rfl
theorem CT{a b:List AV}{x y:Int}(ha:dS a (some x))(hb:dS b (some y))(hx:x.natAbs<2^64)(hy:y.natAbs<2^64)(H:aA):
 Sg 113 [.agg a,.agg b] H (.ret (.agg (cI (Int.gcd x y)))) H:=by
 refine Sp aBw Zaj Zak ?_ H;unfold yk;dsimp only;have hg:=pM ha hb;have s1:=sW x.natAbs;have s2:=sW y.natAbs;have la:=ha.len;have lb:=hb.len;obtain⟨rfl,hz⟩:=ha.some;obtain⟨rfl,hz'⟩:=hb.some;refine bX ?_;simp only[↓zP,zJ,Nat.reduceLT,Nat.reduceEqDiff,Nat.reduceAdd];refine gG ?_;simp only[↓zP,zJ,Nat.reduceLT,Nat.reduceEqDiff,Nat.reduceAdd,oL la,oL lb];refine bO (hg _) ?_;simp only[↓zP,zJ,Nat.reduceLT,An,Du];refine bY ?_;have nY:(AV.bool false::AV.bool false::wC zs).length=18:=by simp[bW];rfl
 have dA:∀z,(cI z).length=18:=fun z=>cJ z;generalize hX:(((aA.mk 0 .nil).alloc _).alloc _).alloc _=HA;have g0:HA.get 0=some (.cells (cI x) false):=by subst hX;simp only[zI,Nat.reduceAdd,Nat.reduceEqDiff]
 have g1:HA.get 1=some (.cells (cI y) false):=by subst hX;simp only[zI,Nat.reduceAdd,Nat.reduceEqDiff]
 have g2:HA.get 2=some (.cells (AV.bool false::AV.bool false::wC zs) false):=by subst hX;simp only[zI,Nat.reduceAdd,Nat.reduceEqDiff]
 clear hX;refine cY fun f hf=>?_;have f2:f 2=.ref 0 0:=by subst hf;simp only[zB,Nat.reduceEqDiff]
 have f3:f 3=.ref 1 0:=by subst hf;simp only[zB,Nat.reduceEqDiff]
 have f4:f 4=.ref 2 0:=by subst hf;simp only[zB,Nat.reduceEqDiff]
 clear hf;have lx:=iL (.aL x.natAbs);have ly:=iL (.aL y.natAbs);have dx:(cI x).drop 2=wC (aL 16 x.natAbs):=rfl;have dy:(cI y).drop 2=wC (aL 16 y.natAbs):=rfl;refine aT fun K hK=>?_;simp only[↓zP,zJ,Nat.reduceLT,Nat.reduceEqDiff,Nat.reduceAdd,Nat.reduceLeDiff,f2,g0,oL la,dx,lx];refine bO (s1 _) ?_;have e1:decide (((sz x.natAbs:Nat):Int)<=2)=true:=Aj (by have :=aEy hx;omega);have e2:decide (((sz y.natAbs:Nat):Int)<=2)=true:=Aj (by have :=aEy hy;omega);simp only[↓zP,zJ,Nat.reduceLT,Nat.reduceEqDiff,Nat.reduceAdd,f3,g1,oL lb,dy,ly,e1];refine bO (s2 _) ?_;simp only[↓zP,zJ,Nat.reduceLT,Nat.reduceEqDiff,e2];refine Dz ?_;have h0:=cU x.natAbs 0;have h1:=cU x.natAbs 1;have k0:=cU y.natAbs 0;have k1:=cU y.natAbs 1;have hW:W=4294967296:=rfl;have p0:(cI x).getD 2 aB=.int .u32 (aJ x.natAbs 0:Nat):=fN (a:=x.natAbs) (i:=0) A1;have p1:(cI x).getD 3 aB=.int .u32 (aJ x.natAbs 1:Nat):=fN (a:=x.natAbs) (i:=1) A1;have q0:(cI y).getD 2 aB=.int .u32 (aJ y.natAbs 0:Nat):=fN (a:=y.natAbs) (i:=0) A1;have q1:(cI y).getD 3 aB=.int .u32 (aJ y.natAbs 1:Nat):=fN (a:=y.natAbs) (i:=1) A1;have w0:IntKind.u64.wrap ((aJ x.natAbs 0:Nat):Int)=(aJ x.natAbs 0:Nat):=gR A0 (.inl rfl);have w1:IntKind.u64.wrap ((aJ x.natAbs 1:Nat):Int)=(aJ x.natAbs 1:Nat):=gR A0 (.inl rfl);have v0:IntKind.u64.wrap ((aJ y.natAbs 0:Nat):Int)=(aJ y.natAbs 0:Nat):=gR A0 (.inl rfl);have v1:IntKind.u64.wrap ((aJ y.natAbs 1:Nat):Int)=(aJ y.natAbs 1:Nat):=gR A0 (.inl rfl);have ox:=Zh h1 h0;have oy:=Zh k1 k0;rw[XV hx] at ox;rw[XV hy] at oy;simp only[↓zP,zJ,Nat.reduceLT,Nat.reduceEqDiff,Nat.reduceAdd,zD,reduceCtorEq,Nat.reduceLeDiff,Int.reduceLT,f2,f3,g0,g1,oL la,oL lb,pZ,p0,p1,q0,q1,w0,w1,v0,v1,ox,oy];refine cY fun f' hf=>?_;have Nf:f' 4=.ref 2 0:=by subst hf;simp only[zB,Nat.reduceEqDiff];exact f4
 have f5:f' 5=.int .u64 (x.natAbs:Nat):=by subst hf;simp only[zB,Nat.reduceEqDiff]
 have f6:f' 6=.int .u64 (y.natAbs:Nat):=by subst hf;simp only[zB]
 clear hf f2 f3 f4;refine aP (iA [5,6] (fun m vs H'=>H'=HA/\∃a b:Nat,vs=[.int .u64 (a:Nat),.int .u64 (b:Nat)]/\a<2^64/\b<2^64/\m=b/\Nat.gcd a b=Nat.gcd x.natAbs y.natAbs) y.natAbs (by rfl) ?_ ?_)
 . exact⟨rfl,_,_,by simp only[sm,f5,f6],hx,hy,rfl,rfl⟩
 rintro b f H1 hk ⟨rfl,a,_,hv,hx1,hy1,rfl,hgc⟩;simp only[zM] at hv;obtain⟨h5,h6⟩:=hv;have f4:f 4=.ref 2 0:=by rw[hk 4 rfl];exact Nf
 by_cases Qg:b=0
 . subst Qg;have e0:(((0:Nat):Int) != 0)=false:=rfl;have ea:a=Int.gcd x y:=by rw[Nat.gcd_zero_right] at hgc;exact hgc
   have l2:=SX hx1;have hl:=TQ.aL a;have q0:((a%W:Nat):Int)=(aJ a 0:Nat):=(by simp[aJ]);have q1:((a / W%W:Nat):Int)=(aJ a 1:Nat):=(by simp[aJ]);have ot:1<=(List.drop 1 (wC zs)).length:=A1;have hse:=iH (n:=false) (m:=a) (Cm hx1 A1) (z:=(a:Int)) rfl;simp only[↓zP,zJ,Nat.reduceLT,Nat.reduceEqDiff,Nat.reduceAdd,Nat.reduceLeDiff,Int.reduceLT,h5,h6,e0,AA,LQ,q0,q1,l2,ot];refine bO (hse _) ?_;simp only[↓zP,zJ,Nat.reduceEqDiff,f4,g2,dA,nY,oL nY];refine⟨rfl,_,by simp only[↓zP,zR,Nat.reduceEqDiff,f4,g2,dA,oL (dA _)];rfl,?_⟩;rw[ea];rfl
 have e0:(((b:Nat):Int) != 0)=true:=Gw.2 A0;have bGw:¬((b:Nat):Int)=0:=by omega
 simp only[↓zP,zJ,Nat.reduceLT,h6,e0];refine aP ?_;refine Dz ?_;simp only[↓zP,zJ,Nat.reduceLT,Nat.reduceEqDiff,Nat.reduceAdd,zD,reduceCtorEq,h5,h6,bGw];have ht:Int.tmod (a:Int) (b:Int)=((a%b:Nat):Int):=rfl;have dT:a%b<b:=Bz _ A0;have hwm:IntKind.u64.wrap ((a%b:Nat):Int)=((a%b:Nat):Int):=gR A0 (.inl rfl);rw[ht];exact⟨_,dT,b,a%b,rfl,hy1,by omega,rfl,by rw[Jn,<-Nat.gcd_rec,Jn,hgc]⟩
theorem Nh{x y:Int}(hx:x.natAbs<W^16)(hy:y.natAbs<W^16):(Int.gcd x y:Int).natAbs<W^16:=by rw[Cy];exact qh hx hy
theorem xy(n:Nat):∀{x y:Int},y.natAbs=n->x.natAbs<W^16->y.natAbs<W^16->∀H:aA,Sg 113 [.agg (cI x),.agg (cI y)] H (.ret (.agg (cI (Int.gcd x y)))) H:=by
 induction n using Nat.strongRecOn with
 |_ n ih=>
 intro x y hn hx hy H;by_cases hsm:sz x.natAbs<=2/\sz y.natAbs<=2
 . have hW2:W^2=2^64:=rfl;exact CT (.enc hx) (.enc hy) (by rw[<-hW2];exact(MI hx).1 hsm.1) (by rw[<-hW2];exact(MI hy).1 hsm.2) H
 refine Sp aBw Zak Zak ?_ H;unfold yk;dsimp only;have hg:=pM (.enc hx) (.enc hy);have s1:=sW x.natAbs;have s2:=sW y.natAbs;have la:=cJ x;have lb:=cJ y;have dA:∀z,(cI z).length=18:=fun z=>cJ z;have nY:(AV.bool false::AV.bool false::wC zs).length=18:=by simp[bW];rfl
 have gun:∀b A B,fD aB b A B=B:=fun _ _ _=>rfl;have lx:=iL (.aL x.natAbs);have ly:=iL (.aL y.natAbs);have dx:(cI x).drop 2=wC (aL 16 x.natAbs):=rfl;have dy:(cI y).drop 2=wC (aL 16 y.natAbs):=rfl;refine bX ?_;refine Ty ?_;refine bY ?_;generalize hX:(((aA.mk 0 .nil).alloc _).alloc _).alloc _=HA;have g0:HA.get 0=some (.cells (cI x) false):=by subst hX;simp only[zI,seval]
 have g1:HA.get 1=some (.cells (cI y) false):=by subst hX;simp only[zI,seval]
 have g2:HA.get 2=some (.cells (AV.bool false::AV.bool false::wC zs) false):=by subst hX;simp only[zI,seval]
 have gn:HA.next=3:=by subst hX;rfl
 have hf:bM HA:=by subst hX;exact(((bM.nil _).alloc _).alloc _).alloc _
 clear hX;refine bX ?_;simp only[↓zP,zJ,seval,g0,g1,oL la,oL lb];refine bO (hg _) ?_;simp only[↓zP,zJ,seval,An,Du];refine bY ?_;refine cY fun f hf=>?_;have f2:f 2=.ref 0 0:=by subst hf;simp only[zB,seval]
 have f3:f 3=.ref 1 0:=by subst hf;simp only[zB,seval]
 have f4:f 4=.ref 2 0:=by subst hf;simp only[zB,seval]
 clear hf;refine aT fun K hK=>?_
 have key:∀f:cW,f 2=.ref 0 0->f 3=.ref 1 0->f 4=.ref 2 0->K f [] HA:=by
  intro f f2 f3 f4;apply hK;clear hK K;refine aT fun K hK=>?_;refine bX ?_;refine gZ 2 A1 (bM.at2 (by assumption)) fun H1 n1 e1=>?_;simp only[↓zP,zJ,seval,zD,f2,f3,e1,g0,g1,gn,la,lb,dx,dy,lx,ly];refine bY ?_;generalize hX:aA.set _ 4 _=HB
  replace g0:HB.get 0=some (.cells (cI x) false):=by subst hX;simp only[zI,seval,e1,g0]
  replace g2:HB.get 2=some (.cells (AV.bool false::AV.bool false::wC zs) false):=by subst hX;simp only[zI,seval,e1,g2]
  have g3:HB.get 3=some (.cells (wC (aL 16 x.natAbs)) false):=by subst hX;simp only[zI,seval]
  have g4:HB.get 4=some (.cells (wC (aL 16 y.natAbs)) false):=by subst hX;simp only[zI,seval]
  replace gn:HB.next=5:=by subst hX;simp only[zI,seval,n1,gn]
  clear hX e1 n1 g1 hf HA H1;refine cY fun f' hf=>?_;have k2:=Ks hf f2;have k4:=Ks hf f4;have k7:f' 7=.ref 3 0:=by subst hf;simp only[zB,seval]
  have k8:f' 8=.ref 4 0:=by subst hf;simp only[zB,seval]
  clear hf f2 f3 f4 f;have hyz:decide (aL 16 y.natAbs=zs)=decide (y.natAbs=0):=by rw[Bk];exact rI hy
  by_cases PE:y.natAbs=0
  . have e0:(!decide (aL 16 y.natAbs=zs))=false:=by rw[hyz,Aj PE];rfl
    have ab:=xg (.enc hx)
    have eg:aSv (some x)=some (Int.gcd x y:Int):=by have :y=0:=A0;rw[this,Int.gcd_zero_right];rfl
    rw[eg] at ab;simp only[↓zP,zJ,seval,k8,g4,ly,e0];apply hK;clear hK K;simp only[↓zP,zJ,seval,k2,g0,oL la];refine bO (ab _) ?_;have ec:cO (some (Int.gcd x y:Int))=cI (Int.gcd x y):=rfl;simp only[↓zP,zJ,seval,ec,k4,g2,dA,nY,oL nY];refine⟨rfl,_,by simp only[↓zP,zR,seval,k4,dA,oL (dA _)];rfl,?_⟩;rfl
  clear hK;have e0:(!decide (aL 16 y.natAbs=zs))=true:=by rw[hyz,Ad PE];rfl
  have hq:=Mv hx hy (show 0<y.natAbs by omega);have Tq:x.natAbs%y.natAbs<y.natAbs:=Bz _ A0;have lq:=iL (.aL (x.natAbs / y.natAbs));have lr:=iL (.aL (x.natAbs%y.natAbs));have s1:=iH (n:=false) hy (z:=(y.natAbs:Int)) rfl;have s2:=iH (n:=false) (m:=x.natAbs%y.natAbs) A0 (z:=((x.natAbs%y.natAbs:Nat):Int)) rfl;have gc:=ih (x.natAbs%y.natAbs) A0 (x:=(y.natAbs:Int)) (y:=((x.natAbs%y.natAbs:Nat):Int)) rfl (by rw[Cy];exact hy) (by rw[Cy];omega)
  have eg:Int.gcd (y.natAbs:Int) ((x.natAbs%y.natAbs:Nat):Int)=Int.gcd x y:=by show Nat.gcd y.natAbs (x.natAbs%y.natAbs)=Nat.gcd x.natAbs y.natAbs;rw[Jn,<-Nat.gcd_rec,Jn]
  rw[eg] at gc;generalize hR:x.natAbs%y.natAbs=r at *;generalize hQ:x.natAbs / y.natAbs=q at *;simp only[↓zP,zJ,seval,k7,k8,g3,g4,lx,ly,e0];refine bO (hq _) ?_;simp only[↓zP,zJ,seval,gn,lq,lr];refine Dz ?_;simp only[↓zP,zJ,seval,zD,k8,gn,g4,ly];refine dM (s1 _) ?_;simp only[↓zP,zJ,seval,zD,lr];refine dM (s2 _) ?_;simp only[seval];refine dM (gc _) ?_;simp only[↓zP,zJ,seval,zD,k4,gn,g2,dA,nY,oL nY];refine⟨rfl,_,by simp only[↓zP,zR,seval,k4,dA,oL (dA _)];rfl,?_⟩;rfl
 clear hK;by_cases h1:sz x.natAbs<=2
 . have e1:decide (((sz x.natAbs:Nat):Int)<=2)=true:=Aj A0;have e2:decide (((sz y.natAbs:Nat):Int)<=2)=false:=Ad A0;simp only[↓zP,zJ,seval,f2,g0,oL la,dx,lx];refine bO (s1 _) ?_;simp only[↓zP,zJ,seval,f3,g1,oL lb,dy,ly,e1];refine bO (s2 _) ?_;simp only[↓zP,zG,seval,e2];refine key _ ?_ ?_ ?_<;>simp only[zB,seval,f2,f3,f4]
 have e1:decide (((sz x.natAbs:Nat):Int)<=2)=false:=Ad A0;simp only[↓zP,zJ,seval,f2,g0,oL la,dx,lx];refine bO (s1 _) ?_;simp only[↓zP,zG,seval,e1];refine key _ ?_ ?_ ?_<;>simp only[zB,seval,f2,f3,f4]
def aIf:Option Int->Option Int->Option Int
 |some x,some y=>some (Int.gcd x y)
 |_,_=>none
theorem cb{a b:List AV}{x y:Option Int}(ha:dS a x)(hb:dS b y)(hxy:(x.isSome&&y.isSome)=false)(H:aA):Sg 113 [.agg a,.agg b] H (.ret (.agg uD)) H:=by
 refine So aBw Zaj ?_ H;unfold yk;dsimp only;have hg:=pM ha hb;rw[hxy] at hg;have la:=ha.len;have lb:=hb.len;have nY:(AV.bool false::AV.bool false::wC zs).length=18:=by simp[bW];rfl
 have ZO:=oL (show uD.length=18 from mC none);refine bX ?_;refine Ty ?_;refine bY ?_;refine aT fun K hK=>?_;simp only[↓zP,zJ,seval,oL la,oL lb];refine bO (hg _) ?_;refine Ty ?_;refine bO (qB _) ?_;simp only[↓zP,zJ,seval,ZO,nY,oL nY];refine⟨rfl,_,by simp only[↓zP,zR,seval,ZO];rfl,?_⟩;rfl
theorem YD{a b:List AV}{x y:Option Int}(ha:dS a x)(hb:dS b y)(H:aA):Sg 113 [.agg a,.agg b] H (.ret (.agg (cO (aIf x y)))) H:=by
 cases x with
 |none=>exact cb ha hb rfl H
 |some x=>cases y with
  |none=>exact cb ha hb rfl H
  |some y=>obtain⟨rfl,hx⟩:=ha.some;obtain⟨rfl,hy⟩:=hb.some;exact xy _ rfl hx hy H
theorem dS.gcd{x y:Option Int}{v w:List AV}(h:dS v x)(h2:dS w y):dS (cO (aIf x y)) (aIf x y):=by
 cases x with
 |none=>exact .bad
 |some x=>cases y with
  |none=>exact .bad
  |some y=>exact .enc (Nh h.fit h2.fit)
end Go.Proofs.YtogfcjbgeebfkaaGreatDoor
namespace Go.Proofs.YtogfcjbgeebfkaaGreatDoor
open Go Go.Av
def aOp:CW Tryz.f112:=⟨_,dB⟩
theorem aZv:Fi 112 aOp:=dC Tryz.func112 aOp
def W42:CW Tryz.f42:=⟨_,KO⟩
theorem bJz:Fi 42 W42:=dC Tryz.func42 W42
def aOn:CW Tryz.f104:=⟨_,dB⟩
theorem aZt:Fi 104 aOn:=dC Tryz.func104 aOn
def aQc:CW Tryz.f192:=⟨_,dB⟩
theorem bBi:Fi 192 aQc:=dC Tryz.func192 aQc
def aQb:CW Tryz.f190:=⟨_,dB⟩
theorem bBh:Fi 190 aQb:=dC Tryz.func190 aQb
def aOl:CW Tryz.f100:=⟨_,dB⟩
theorem aZr:Fi 100 aOl:=dC Tryz.func100 aOl
def W33:CW Tryz.f33:=⟨_,dB⟩
theorem bJv:Fi 33 W33:=dC Tryz.func33 W33
end Go.Proofs.YtogfcjbgeebfkaaGreatDoor
namespace Go.Proofs.YtogfcjbgeebfkaaGreatDoor
open Go Go.Av Go.lP
attribute [local congr] aY aS aV aQ bD aX aW aH bE
attribute [local irreducible] FC bT eX
def bj:Option Int->Option Int->Option Rat
 |some n,some d=>if 0<d/\Int.gcd n d=1 then some (Rat.divInt n d) else none
 |_,_=>none
def cQ(q:Rat):List AV:=cI q.num++cI q.den
def l6:List AV:=uD++cI 1
def LD:Option Rat->List AV
 |some q=>cQ q
 |none=>l6
def Qo(q:Rat):Prop:=q.num.natAbs<W^16/\q.den<W^16
instance (q:Rat):Decidable (Qo q):=inferInstanceAs (Decidable (_/\_))
def wD(v:List AV)(x:Option Rat):Prop:=∃a b n d,v=a++b/\dS a n/\dS b d/\x=bj n d
theorem uu{n d:Option Int}{q:Rat}(h:bj n d=some q):n=some q.num/\d=some (q.den:Int):=by
 cases n with
 |none=>cases h
 |some n=>cases d with
  |none=>cases h
  |some d=>
   simp only[bj] at h;split at h
   . rename_i hd;obtain rfl:=Aa h;have hg:d.gcd n=1:=(by rw[Int.gcd_comm];exact hd.2);rw[Rat.num_divInt,Rat.den_divInt,hg,if_neg A0,Int.sign_eq_one_of_pos hd.1];simp;omega
   cases h
theorem aFm(q:Rat):bj (some q.num) (some (q.den:Int))=some q:=by have h1:=Nat.pos_of_ne_zero q.den_nz;have h2:Int.gcd q.num q.den=1:=q.reduced;simp only[bj];rw[if_pos ⟨by omega,h2⟩,<-Rat.mk_eq_divInt (nz:=q.den_nz) (c:=q.reduced)]
theorem wD.some{v:List AV}{q:Rat}(h:wD v (Option.some q)):v=cQ q/\Qo q:=by obtain⟨a,b,n,d,rfl,ha,hb,hx⟩:=h;obtain⟨rfl,rfl⟩:=uu hx.symm;obtain⟨rfl,h1⟩:=ha.some;obtain⟨rfl,h2⟩:=hb.some;exact⟨rfl,h1,by simpa using h2⟩
theorem wD.enc{q:Rat}(h:Qo q):wD (cQ q) (Option.some q):=⟨_,_,_,_,rfl,.enc h.1,.enc (by simpa using h.2),(aFm q).symm⟩
theorem wD.bad:wD l6 none:=⟨_,_,none,Option.some 1,rfl,.bad,.enc A1,rfl⟩
theorem wD.len{v:List AV}{x:Option Rat}(h:wD v x):v.length=36:=by obtain⟨a,b,n,d,rfl,ha,hb,hx⟩:=h;rw[Ap,ha.len,hb.len]
theorem wD.free{v:List AV}{x:Option Rat}(h:wD v x):cM v=true:=by obtain⟨a,b,n,d,rfl,ha,hb,hx⟩:=h;rw[iV,ha.free,hb.free];rfl
theorem OP(q:Rat):(cQ q).length=36:=by rw[cQ,Ap,cJ,cJ]
theorem qS(x:Option Rat):(LD x).length=36:=by
 cases x
 . exact wD.bad.len
 exact OP _
theorem nO(x:Option Rat):cM (LD x)=true:=by
 cases x
 . exact wD.bad.free
 simp only[LD,cQ,iV,cK];rfl
theorem pO{a b:List AV}(ha:a.length=18)(hb:b.length=18):(a++b).length=36/\(a++b).take 18=a/\(a++b).drop 18=b/\(a++b).take 36=a++b/\(a++b).drop 36=[]:=by refine⟨by rw[Ap,ha,hb],by rw[<-ha];simp,by rw[<-ha];simp,Bb Zaf,Bo Zaf⟩
theorem eqI{x y:Int}(hx:x.natAbs<W^16)(hy:y.natAbs<W^16):cT [.b,.b,.i,.i,.i,.i,.i,.i,.i,.i,.i,.i,.i,.i,.i,.i,.i,.i] (cI x) (cI y)=some (decide (x=y)):=by
 unfold cI;simp only[cT,LL (bP 16 _) (bP 16 _),Cf,Iy,Ct];congr 1;rw[Di,Ak,Dh,Bk,Hj,Hj];constructor
 . rintro⟨h1,h2⟩;have h3:x.natAbs=y.natAbs:=by rw[<-eD hx,h2,eD hy]
   omega
 rintro rfl;exact⟨Iff.rfl,rfl⟩
def NY:List AV:=(AV.bool false::.bool false::wC zs)++(AV.bool false::.bool false::wC zs)
theorem zK:[AV.bool false,.bool false,.int .u32 0,.int .u32 0,.int .u32 0,.int .u32 0,.int .u32 0,.int .u32 0,.int .u32 0,.int .u32 0,.int .u32 0,.int .u32 0,.int .u32 0,.int .u32 0,.int .u32 0,.int .u32 0,.int .u32 0,.int .u32 0,.bool false,.bool false,.int .u32 0,.int .u32 0,.int .u32 0,.int .u32 0,.int .u32 0,.int .u32 0,.int .u32 0,.int .u32 0,.int .u32 0,.int .u32 0,.int .u32 0,.int .u32 0,.int .u32 0,.int .u32 0,.int .u32 0,.int .u32 0]=NY:=rfl
theorem jO:NY.length=36:=rfl
theorem NX:(AV.bool false::AV.bool false::wC zs).length=18:=rfl
theorem JY{a:List AV}{x:Option Int}(ha:dS a x)(H:aA):Sg 195 [.agg a] H (.ret (.bool x.isSome)) H:=by
 refine So aNo ZaH ?_ H;unfold aGp;dsimp only;have la:=ha.len;obtain⟨r,rfl,-,hr⟩:=ha.raw;obtain⟨b,n,l,hl⟩:=r;have hv:=OJ b n hl;have gun:∀b A B,fD aB b A B=B:=fun _ _ _=>rfl;have e0:(vH.cells ⟨b,n,l,hl⟩).getD 0 aB=.bool b:=rfl;simp only[vH.Vu,BG] at hr;rw[<-hr];change (AV.bool b::.bool n::wC l).length=18 at la;cases b
 . simp only[↓zP,zJ,seval,vH.cells,la,oL la];refine bO (hv _) ?_;refine Tz ?_;refine Rx ?_;cases n<;>cases decide (l=zs)<;>rfl
 simp only[↓zP,zJ,seval,vH.cells,la];exact ZaB
theorem UT(H:aA):Sg 147 [] H (.ret (.agg (cI 1))) H:=by refine Sp aBx Zac Zak ?_ H;unfold yt;dsimp only;refine Ty ?_;refine bO (tJ (z:=1) A1 A1 _) ?_;refine Ty ?_;refine Rx ?_;rfl
theorem sV(H:aA):Sg 112 [] H (.ret (.agg l6)) H:=by refine Sp aZv Zac (by simp only[sf];exact nO none) ?_ H;unfold aOp;dsimp only;have lb:=mC none;have l1:=cJ 1;have hz:=pO lb NX;have h2:=pO lb l1;rw[show cO none=uD from rfl] at lb hz h2;refine bX ?_;simp only[↓zP,zG,seval,zK];refine bY ?_;simp only[↓zP,seval,zI];refine bO (qB _) ?_;refine bO (UT _) ?_;simp only[↓zP,zJ,seval,lb,l1,hz,h2,oL jO];refine⟨rfl,_,by simp only[↓zP,zR,seval,h2];rfl,?_⟩;rfl
def Nl:Option Int->Option Int->Option Rat
 |some n,some d=>if d=0 then none else some (Rat.divInt n d)
 |_,_=>none
theorem xP{v:List AV}{x:Option Rat}(hv:wD v x)(H:aA):Sg 107 [.agg v] H (.ret (.bool x.isSome)) H:=by
 refine So aNb (by simp only[sf,hv.free]) ?_ H;unfold aGc;dsimp only;obtain⟨a,b,n,d,rfl,ha,hb,rfl⟩:=hv;have hh:=pO ha.len hb.len;have g1:=JY ha;have g2:=JY hb;have sg:=qR hb;have gc:=YD ha hb;have la:=ha.len;have lb:=hb.len;have gun:∀b A B,fD aB b A B=B:=fun _ _ _=>rfl;simp only[↓zP,zJ,seval,hh];refine bO (g1 _) ?_
 cases n with
 |none=>simp only[↓zP,zG,seval,Br];refine Rx ?_;rfl
 |some n=>
 simp only[↓zP,zJ,seval,An,hh,oL lb];refine bO (g2 _) ?_
 cases d with
 |none=>simp only[↓zP,zG,seval,Br];refine Rx ?_;rfl
 |some d=>
 simp only[↓zP,zJ,seval,An,hh,oL lb];refine bO (sg _) ?_;by_cases hd:0<d
 . have e1:decide (fV (some d)>0)=true:=by simp only[fV];split<;>(try split)<;>first|omega|rfl
   have eqq:cT [.b,.b,.i,.i,.i,.i,.i,.i,.i,.i,.i,.i,.i,.i,.i,.i,.i,.i] (cI (Int.gcd n d)) (cI 1)=some (decide ((Int.gcd n d:Int)=1)):=eqI (Nh ha.fit hb.fit) A1;simp only[↓zP,zJ,seval,e1,hh,oL lb];refine bO (gc _) ?_;refine Tz ?_;refine bO (UT _) ?_;simp only[↓zP,zG,seval,aIf,cO,eqq];refine Rx ?_;simp only[bj,hd,Kh];by_cases hg:Int.gcd n d=1
   . rw[if_pos hg,Aj A0];rfl
   rw[if_neg hg,Ad A0];rfl
 have e1:decide (fV (some d)>0)=false:=by simp only[fV];split<;>(try split)<;>first|omega|rfl
 simp only[↓zP,zG,seval,e1];refine Rx ?_;simp only[bj,hd,false_and,Ca];rfl
def Ql(n d:Int):Int:=if d<0 then -(Int.gcd n d:Int) else(Int.gcd n d:Int)
theorem wQ{g k:Int}(h:g≠0):(g*k).fdiv g=k:=by have :=(Oe (x:=g*k) (y:=g) (q:=k) (r:=0) h (by rw[Int.zero_add]) A0 A0).1;exact this
theorem Wa{n d:Int}(hd:d≠0):Ql n d≠0/\n.fdiv (Ql n d)=(Rat.divInt n d).num/\d.fdiv (Ql n d)=((Rat.divInt n d).den:Int):=by
 have Yz:Int.gcd n d≠0:=fun h=>hd (Jm.1 h).2;have hg:((Int.gcd n d:Nat):Int)≠0:=by omega
 obtain⟨k,hk⟩:=Fa n d;obtain⟨m,hm⟩:=Ea n d;have bHg:d.gcd n=n.gcd d:=Int.gcd_comm d n;rw[Rat.num_divInt,Rat.den_divInt,if_neg hd,bHg];generalize hG:Int.gcd n d=g at *;have vq:0<g:=by omega
 have bIf:Ql n d=if d<0 then -(g:Int) else(g:Int):=by unfold Ql;rw[hG]
 rw[bIf];have e1:∀s:Int,s*n / (g:Int)=s*k:=fun s=>by rw[hk,Int.mul_left_comm,Kf _ hg]
 have e2:d.natAbs / g=m.natAbs:=by rw[hm,Ex,Cy,Nat.mul_div_cancel_left _ vq]
 rw[e1,e2];by_cases hn:d<0
 . have SL:m<0:=by
    rcases Int.lt_or_le m 0 with h|h
    . exact h
    have :=Ec (show 0<=(g:Int) by omega) h;omega
   rw[if_pos hn,Int.sign_eq_neg_one_of_neg hn];refine⟨by omega,?_,?_⟩
   . conv=>lhs;rw[hk]
     rw[show(g:Int)*k= -(g:Int)*(-k) by rw[Int.neg_mul_neg],wQ A0];omega
   conv=>lhs;rw[hm]
   rw[show(g:Int)*m= -(g:Int)*(-m) by rw[Int.neg_mul_neg],wQ A0];omega
 have SL:0<m:=by
  rcases Int.lt_or_le 0 m with h|h
  . exact h
  have h2:(g:Int)*m<=0:=Int.mul_nonpos_of_nonneg_of_nonpos A0 h;omega
 rw[if_neg hn,Int.sign_eq_one_of_pos A0];refine⟨hg,?_,?_⟩
 . conv=>lhs;rw[hk]
   rw[wQ hg,Int.one_mul]
 conv=>lhs;rw[hm]
 rw[wQ hg];omega
theorem ZV{n d:Int}(hd:d≠0)(hn:n.natAbs<W^16)(hdf:d.natAbs<W^16):Qo (Rat.divInt n d):=by
 obtain⟨h0,h1,h2⟩:=Wa (n:=n) hd;refine⟨?_,?_⟩
 . rw[<-h1];exact Ce (BD h0).1 hn
 have :=(BD (x:=d) h0).1;rw[h2] at this;exact Ce (by simpa using this) hdf
theorem wD.mk{n d:Option Int}{a b:List AV}(ha:dS a n)(hb:dS b d):wD (LD (Nl n d)) (Nl n d):=by
 cases n with
 |none=>exact .bad
 |some n=>cases d with
  |none=>exact .bad
  |some d=>
   simp only[Nl];split
   . exact .bad
   rename_i hd;exact .enc (ZV hd ha.fit hb.fit)
theorem CC{a b:List AV}{n d:Option Int}(ha:dS a n)(hb:dS b d)(H:aA):
 Sg 106 [.agg a,.agg b] H (.ret (.agg (LD (Nl n d)))) H:=by
 refine Sp aNa Zaj (by simp only[sf,nO]) ?_ H;unfold aGb;dsimp only;have g1:=JY ha;have g2:=JY hb;have sg:=qR hb;have gc:=YD ha hb;have la:=ha.len;have lb:=hb.len;have dA:∀z,(cI z).length=18:=fun z=>cJ z;have SU:=oL (show l6.length=36 from qS none);have gun:∀b A B,fD aB b A B=B:=fun _ _ _=>rfl;refine bX ?_;simp only[↓zP,zG,seval,zK];refine bY ?_;generalize hX:(((aA.mk 0 .nil).alloc _).alloc _).alloc _=HA;have DX:HA.next=3:=by subst hX;rfl
 have yI:HA.get 0=some (.cells a false):=by subst hX;simp only[zI,seval]
 have RB:HA.get 1=some (.cells b false):=by subst hX;simp only[zI,seval]
 have SD:HA.get 2=some (.cells NY false):=by subst hX;simp only[zI,seval]
 clear hX;refine bX ?_;simp only[↓zP,zJ,seval,yI,oL la];refine bO (g1 _) ?_
 cases n with
 |none=>simp only[↓zP,zJ,seval,Br];refine bO (sV _) ?_;simp only[↓zP,zJ,seval,SD,SU,oL jO];refine⟨rfl,_,by simp only[↓zP,zR,seval,SU];rfl,?_⟩;rfl
 |some n=>
 simp only[↓zP,zJ,seval,An,RB,oL lb];refine bO (g2 _) ?_
 cases d with
 |none=>simp only[↓zP,zJ,seval,Br];refine bO (sV _) ?_;simp only[↓zP,zJ,seval,SD,SU,oL jO];refine⟨rfl,_,by simp only[↓zP,zR,seval,SU];rfl,?_⟩;rfl
 |some d=>
 simp only[↓zP,zJ,seval,An,RB,oL lb];refine bO (sg _) ?_;by_cases hd:d=0
 . subst hd;simp only[↓zP,zG,seval,show(fV (some 0)==0)=true from rfl];refine bO (sV _) ?_;simp only[↓zP,zJ,seval,SD,SU,oL jO];refine⟨rfl,_,by simp only[↓zP,zR,seval,SU];rfl,?_⟩;rfl
 have e1:(fV (some d)==0)=false:=by simp only[fV];split<;>(try split)<;>first|rfl|omega
 simp only[↓zP,zG,seval,e1];refine bY ?_;obtain⟨SL,m1,m2⟩:=Wa (n:=n) hd;have hgf:=Nh ha.fit hb.fit;have hwm:(Ql n d).natAbs<W^16:=by unfold Ql;split<;>omega
 have e2:decide (fV (some d)<0)=decide (d<0):=by rw[Bk];simp only[fV];split<;>(try split)<;>omega
 have q1:=KV ha (.enc hwm);have q2:=KV hb (.enc hwm);have v1:(rW (some n) (some (Ql n d))).1=some (Rat.divInt n d).num:=by simp only[rW];rw[if_neg SL,m1]
 have v2:(rW (some d) (some (Ql n d))).1=some ((Rat.divInt n d).den:Int):=by simp only[rW];rw[if_neg SL,m2]
 rw[v1] at q1;rw[v2] at q2;have DZ:Nl (some n) (some d)=some (Rat.divInt n d):=by simp only[Nl];rw[if_neg hd]
 rw[DZ];have ng:=TR (.enc hgf);clear v1 v2 m1 m2 e1 DZ;generalize Rat.divInt n d=r at *;change ∀H,Sg 113 [.agg a,.agg b] H (.ret (.agg (cI (Int.gcd n d)))) H at gc;change ∀H,Sg 108 [.agg a,.agg (cI (Ql n d))] H (.ret (.agg (cI r.num))) H at q1;change ∀H,Sg 108 [.agg b,.agg (cI (Ql n d))] H (.ret (.agg (cI r.den))) H at q2;have ZG:=pO (dA r.num) (dA r.den);have hr3:=pO (dA r.num) NX;have hcq:cI r.num++cI r.den=cQ r:=rfl;rw[hcq] at ZG;refine cY fun f hf=>?_;have f2:f 2=.ref 0 0:=by subst hf;simp only[zB,seval]
 have f3:f 3=.ref 1 0:=by subst hf;simp only[zB,seval]
 have f4:f 4=.ref 2 0:=by subst hf;simp only[zB,seval]
 clear hf;refine bX ?_;simp only[↓zP,zJ,seval,f2,f3,yI,RB,oL la,oL lb];refine bO (gc _) ?_;simp only[↓zP,zJ,seval,DX,dA,oL NX];refine bY ?_;generalize hX:aA.set _ 3 _=HB;have h0:HB.get 0=some (.cells a false):=by subst hX;simp only[zI,seval,DX,yI]
 have h1:HB.get 1=some (.cells b false):=by subst hX;simp only[zI,seval,DX,RB]
 have h2:HB.get 2=some (.cells NY false):=by subst hX;simp only[zI,seval,DX,SD]
 have h3:HB.get 3=some (.cells (cI (Int.gcd n d)) false):=by subst hX;simp only[zI,seval]
 clear hX yI RB SD DX HA;refine cY fun f' hf=>?_;have nt:=Ks hf f2;have Vl:=Ks hf f3;have Nf:=Ks hf f4;have Ng:f' 5=.ref 3 0:=by subst hf;simp only[zB,seval]
 clear hf f2 f3 f4 f;refine aT fun K hK=>?_
 have key:∀(f:cW) (HC:aA),f 2=.ref 0 0->f 3=.ref 1 0->f 4=.ref 2 0->f 5=.ref 3 0->HC.get 0=some (.cells a false)->HC.get 1=some (.cells b false)->HC.get 2=some (.cells NY false)->HC.get 3=some (.cells (cI (Ql n d)) false)->K f [] HC:=by intro f HC f2 f3 f4 f5 h0 h1 h2 h3;apply hK;clear hK K;refine bX ?_;refine Dz ?_;simp only[↓zP,zJ,seval,zD,f2,f5,h0,h3,oL la,oL (dA _)];refine dM (q1 _) ?_;simp only[↓zP,zJ,seval,zD,f3,f5,h1,h3,oL lb,oL (dA _)];refine dM (q2 _) ?_;simp only[↓zP,zG,seval,zD,reduceCtorEq,zI,f4,h0,h1,h2,h3,dA,oL jO,show List.drop 18 NY=AV.bool false::AV.bool false::wC zs from rfl,ZG,hr3,hcq];refine bY ?_;refine Tx ?_;refine⟨rfl,_,by simp only[↓zP,zR,seval,f4,ZG];rfl,?_⟩;rfl
 simp only[↓zP,zJ,seval,Vl,h1,oL lb];refine bO (sg _) ?_;simp only[↓zP,zG,seval,e2];refine⟨fun RF=>?_,fun RF=>?_⟩
 . have em:Ql n d= -(Int.gcd n d:Int):=by unfold Ql;rw[if_pos RF]
   have ev:AV.agg (cO (NR (some (Int.gcd n d:Int))))=AV.agg (cI (Ql n d)):=(by rw[em];rfl);exact Zam
 have em:Ql n d=(Int.gcd n d:Int):=by unfold Ql;rw[if_neg RF]
 exact ZaK
theorem ij(n:Int):Nl (some n) (some 1)=some (n:Rat):=by simp only[Nl];rw[if_neg A1];exact Ao some (Rat.num_divInt_den (n:Rat))
theorem rv{a:List AV}{n:Option Int}(ha:dS a n)(H:aA):
 Sg 64 [.agg a] H (.ret (.agg (LD (Nl n (some 1))))) H:=by
 refine Sp bEf ZaH (by simp only[sf,nO]) ?_ H;unfold W64;dsimp only;have la:=ha.len;have mk:=CC ha (.enc (z:=1) A1);have lr:=oL (qS (Nl n (some 1)));generalize Nl n (some 1)=r at *;refine bX ?_;simp only[↓zP,zG,seval,zK];refine gG ?_;refine Dz ?_;simp only[↓zP,zJ,seval,zD,oL la];refine dM (UT _) ?_;simp only[seval];refine dM (mk _) ?_;simp only[↓zP,zJ,seval,zD,lr,oL jO];refine bY ?_;refine Tx ?_;refine⟨rfl,_,by simp only[↓zP,zR,seval,lr];rfl,?_⟩;rfl
theorem Pz{z:Int}(h0: -2^63<=z)(h1:z<2^63)(H:aA):Sg 40 [.int .i64 z] H (.ret (.agg (cQ z))) H:=by refine Sp bEa Zac (by simp only[sf];exact nO (some _)) ?_ H;unfold W40;dsimp only;have hz:z.natAbs<W^16:=Ce (show z.natAbs<=2^63 by omega) A1;have wh:=rv (.enc hz);rw[ij] at wh;change ∀H,Sg 64 [.agg (cI z)] H (.ret (.agg (cQ z))) H at wh;have lr:=oL (OP (z:Rat));refine Ty ?_;refine bO (tJ h0 h1 _) ?_;refine bO (wh _) ?_;simp only[↓zP,zJ,seval,lr];refine⟨rfl,_,by simp only[↓zP,zR,seval,lr];rfl,?_⟩;rfl
def ky:Option Rat->Option Rat->Option Rat
 |some x,some y=>Nl (vJ (lO (some x.num) (some ((y.den:Int).fdiv (Int.gcd x.den y.den)))) (lO (some y.num) (some ((x.den:Int).fdiv (Int.gcd x.den y.den))))) (lO (some ((x.den:Int).fdiv (Int.gcd x.den y.den))) (some (y.den:Int)))
 |_,_=>none
theorem aKv{v w:List AV}{x y:Option Rat}(hv:wD v x)(hw:wD w y)(H:aA):Sg 44 [.agg v,.agg w] H (.ret (.agg (LD (ky x y)))) H:=by
 refine Sp bEb (by simp only[sf,hv.free,hw.free]) (by simp only[sf,nO]) ?_ H;unfold W44;dsimp only;have g1:=xP hv;have g2:=xP hw;have lv:=hv.len;have lw:=hw.len;have dA:∀z,(cI z).length=18:=fun z=>cJ z;have SU:=oL (show l6.length=36 from qS none);have gun:∀b A B,fD aB b A B=B:=fun _ _ _=>rfl;refine bX ?_;simp only[↓zP,zG,seval,zK];refine bY ?_;generalize hX:(((aA.mk 0 .nil).alloc _).alloc _).alloc _=HA;have DX:HA.next=3:=by subst hX;rfl
 have yI:HA.get 0=some (.cells v false):=by subst hX;simp only[zI,seval]
 have RB:HA.get 1=some (.cells w false):=by subst hX;simp only[zI,seval]
 have SD:HA.get 2=some (.cells NY false):=by subst hX;simp only[zI,seval]
 have hf:bM HA:=by subst hX;exact(((bM.nil _).alloc _).alloc _).alloc _
 clear hX;refine bX ?_;simp only[↓zP,zJ,seval,yI,oL lv];refine bO (g1 _) ?_
 cases x with
 |none=>simp only[↓zP,zJ,seval,Br];refine bO (sV _) ?_;simp only[↓zP,zJ,seval,SD,SU,oL jO];refine⟨rfl,_,by simp only[↓zP,zR,seval,SU];rfl,?_⟩;rfl
 |some x=>
 simp only[↓zP,zJ,seval,An,RB,oL lw];refine bO (g2 _) ?_
 cases y with
 |none=>simp only[↓zP,zJ,seval,Br];refine bO (sV _) ?_;simp only[↓zP,zJ,seval,SD,SU,oL jO];refine⟨rfl,_,by simp only[↓zP,zR,seval,SU];rfl,?_⟩;rfl
 |some y=>
 simp only[↓zP,zJ,seval,An];refine bY ?_;obtain⟨rfl,fx1,fx2⟩:=hv.some;obtain⟨rfl,fy1,fy2⟩:=hw.some;have hx:=pO (dA x.num) (dA x.den);have hy:=pO (dA y.num) (dA y.den);change (cQ x).length=36/\(cQ x).take 18=_/\(cQ x).drop 18=_/\_ at hx;change (cQ y).length=36/\(cQ y).take 18=_/\(cQ y).drop 18=_/\_ at hy;have ixd:dS (cI x.den) (some (x.den:Int)):=.enc (by simpa using fx2);have iyd:dS (cI y.den) (some (y.den:Int)):=.enc (by simpa using fy2);have Yz:(Int.gcd x.den y.den:Int)≠0:=fun h=>x.den_nz (by have :=(Jm (a:=(x.den:Int)) (b:=(y.den:Int))).1 A0;omega);have ig:dS (cI (Int.gcd x.den y.den)) (some (Int.gcd x.den y.den:Int)):=.enc (Nh ixd.fit iyd.fit);have gc:=YD ixd iyd;have qp:=KV ixd ig;have qq:=KV iyd ig;have v1:(rW (some (x.den:Int)) (some (Int.gcd x.den y.den:Int))).1=some ((x.den:Int).fdiv (Int.gcd x.den y.den)):=by simp only[rW];rw[if_neg Yz]
 have v2:(rW (some (y.den:Int)) (some (Int.gcd x.den y.den:Int))).1=some ((y.den:Int).fdiv (Int.gcd x.den y.den)):=by simp only[rW];rw[if_neg Yz]
 have ip:=dS.aHv (y:=some (Int.gcd x.den y.den:Int)) ixd;have iq:=dS.aHv (y:=some (Int.gcd x.den y.den:Int)) iyd;rw[v1] at qp ip;rw[v2] at qq iq;have DZ:ky (some x) (some y)=Nl (vJ (lO (some x.num) (some ((y.den:Int).fdiv (Int.gcd x.den y.den)))) (lO (some y.num) (some ((x.den:Int).fdiv (Int.gcd x.den y.den))))) (lO (some ((x.den:Int).fdiv (Int.gcd x.den y.den))) (some (y.den:Int))):=rfl;rw[DZ];change ∀H,Sg 113 [.agg (cI x.den),.agg (cI y.den)] H (.ret (.agg (cI (Int.gcd x.den y.den)))) H at gc;clear v1 v2 DZ;generalize (x.den:Int).fdiv (Int.gcd x.den y.den)=p at *;generalize (y.den:Int).fdiv (Int.gcd x.den y.den)=q at *;generalize (Int.gcd x.den y.den:Int)=g at *;change dS (cI q) (some q) at iq;change dS (cI p) (some p) at ip;have m1:=tI (.enc fx1) iq;have m2:=tI (.enc fy1) ip;have ad:=KQ (dS.mul (x:=some x.num) (y:=some q)) (dS.mul (x:=some y.num) (y:=some p));have m3:=tI ip iyd;have mk:=CC (dS.add (x:=lO (some x.num) (some q)) (y:=lO (some y.num) (some p))) (dS.mul (x:=some p) (y:=some (y.den:Int)));have lr:=oL (qS (Nl (vJ (lO (some x.num) (some q)) (lO (some y.num) (some p))) (lO (some p) (some (y.den:Int)))));generalize Nl (vJ (lO (some x.num) (some q)) (lO (some y.num) (some p))) (lO (some p) (some (y.den:Int)))=r at *;refine cY fun f hf=>?_;have f2:f 2=.ref 0 0:=by subst hf;simp only[zB,seval]
 have f3:f 3=.ref 1 0:=by subst hf;simp only[zB,seval]
 have f4:f 4=.ref 2 0:=by subst hf;simp only[zB,seval]
 clear hf;refine bX ?_;simp only[↓zP,zJ,seval,f2,f3,yI,RB,hx,hy,oL (dA _)];refine bO (gc _) ?_;simp only[↓zP,zJ,seval,DX,dA,oL NX];refine bY ?_;generalize hX:aA.set _ 3 _=HB;have h0:HB.get 0=some (.cells (cQ x) false):=by subst hX;simp only[zI,seval,DX,yI]
 have h1:HB.get 1=some (.cells (cQ y) false):=by subst hX;simp only[zI,seval,DX,RB]
 have h2:HB.get 2=some (.cells NY false):=by subst hX;simp only[zI,seval,DX,SD]
 have h3:HB.get 3=some (.cells (cI g) false):=by subst hX;simp only[zI,seval]
 have hn4:HB.next=4:=by subst hX;simp only[zI,seval,DX]
 have hfB:bM HB:=by subst hX;exact(hf.alloc _).set (by simp only[zI,seval,DX]) _
 clear hX yI RB SD DX hf HA;refine cY fun f' hf=>?_;have nt:=Ks hf f2;have Vl:=Ks hf f3;have Nf:=Ks hf f4;have Ng:f' 5=.ref 3 0:=by subst hf;simp only[zB,seval]
 clear hf f2 f3 f4 f;refine bX ?_;refine gZ 2 A1 hfB.at2 fun H1 n1 e1=>?_;simp only[↓zP,zJ,seval,zD,nt,Ng,e1,h0,h3,hn4,hx,oL (dA _)];refine dM (qp _) ?_;simp only[↓zP,zJ,seval,zD,Vl,Ng,e1,h1,h3,hy,oL (dA _)];refine dM (qq _) ?_;have cO1:cO (some p)=cI p:=rfl;have cO2:cO (some q)=cI q:=rfl;simp only[↓zP,zJ,seval,zD,e1,cO1,cO2,dA,oL NX];refine bY ?_;generalize hX:aA.set _ 5 _=HC
 replace h0:HC.get 0=some (.cells (cQ x) false):=by subst hX;simp only[zI,seval,e1,h0]
 replace h1:HC.get 1=some (.cells (cQ y) false):=by subst hX;simp only[zI,seval,e1,h1]
 replace h2:HC.get 2=some (.cells NY false):=by subst hX;simp only[zI,seval,e1,h2]
 have h4:HC.get 4=some (.cells (cI p) false):=by subst hX;simp only[zI,seval]
 have h5:HC.get 5=some (.cells (cI q) false):=by subst hX;simp only[zI,seval]
 clear hX e1 n1 hn4 hfB h3 HB H1;refine cY fun f hf=>?_;have f2:=Ks hf nt;have f3:=Ks hf Vl;have f4:=Ks hf Nf;have f6:f 6=.ref 4 0:=by subst hf;simp only[zB,seval]
 have f7:f 7=.ref 5 0:=by subst hf;simp only[zB,seval]
 clear hf nt Vl Nf Ng f';refine bX ?_;refine Dz ?_;simp only[↓zP,zJ,seval,zD,f2,f7,h0,h5,hx,oL (dA _)];refine dM (m1 _) ?_;simp only[↓zP,zJ,seval,zD,f3,f6,h1,h4,hy,oL (dA _)];refine dM (m2 _) ?_;simp only[seval];refine dM (ad _) ?_;simp only[↓zP,zJ,seval,zD,f3,f6,h1,h4,hy,oL (dA _)];refine dM (m3 _) ?_;simp only[seval];refine dM (mk _) ?_;simp only[↓zP,zJ,seval,zD,f4,h2,lr,oL jO];refine bY ?_;refine Tx ?_;refine⟨rfl,_,by simp only[↓zP,zR,seval,f4,lr];rfl,?_⟩;rfl
def Wb:Option Rat->Option Rat->Option Rat
 |some x,some y=>if Qo (x*y) then some (x*y) else none
 |_,_=>none
theorem qd(x y:Rat):(x*y).num=(Rat.divInt x.num y.den).num*(Rat.divInt y.num x.den).num/\(x*y).den=(Rat.divInt x.num y.den).den*(Rat.divInt y.num x.den).den:=by
 have h1:((x.den:Nat):Int)≠0:=by have :=x.den_nz;omega
 have h2:((y.den:Nat):Int)≠0:=by have :=y.den_nz;omega
 have e:∀(a:Int) (b:Nat),b≠0->(Rat.divInt a b).num=a / ((a.natAbs.gcd b:Nat):Int)/\(Rat.divInt a b).den=b / a.natAbs.gcd b:=fun a b hb=>by rw[Rat.num_divInt,Rat.den_divInt,if_neg A0,Int.sign_eq_one_of_pos A0,Int.one_mul,Cy,Int.gcd_comm];exact⟨rfl,rfl⟩
 obtain⟨a1,a2⟩:=e x.num y.den y.den_nz;obtain⟨b1,b2⟩:=e y.num x.den x.den_nz;rw[a1,a2,b1,b2];show(Rat.mul x y).num=_/\(Rat.mul x y).den=_;unfold Rat.mul;simp only[Int.divExact_eq_ediv,Nat.divExact_eq_div];exact⟨trivial,Bx _ _⟩
theorem aKx{v w:List AV}{x y:Option Rat}(hv:wD v x)(hw:wD w y)(H:aA):Sg 81 [.agg v,.agg w] H (.ret (.agg (LD (Wb x y)))) H:=by
 refine Sp bEi (by simp only[sf,hv.free,hw.free]) (by simp only[sf,nO]) ?_ H;unfold W81;dsimp only;have g1:=xP hv;have g2:=xP hw;have lv:=hv.len;have lw:=hw.len;have dA:∀z,(cI z).length=18:=fun z=>cJ z;have SU:=oL (show l6.length=36 from qS none);have gun:∀b A B,fD aB b A B=B:=fun _ _ _=>rfl;refine bX ?_;simp only[↓zP,zG,seval,zK];refine bY ?_;generalize hX:(((aA.mk 0 .nil).alloc _).alloc _).alloc _=HA;have DX:HA.next=3:=by subst hX;rfl
 have yI:HA.get 0=some (.cells v false):=by subst hX;simp only[zI,seval]
 have RB:HA.get 1=some (.cells w false):=by subst hX;simp only[zI,seval]
 have SD:HA.get 2=some (.cells NY false):=by subst hX;simp only[zI,seval]
 have hf:bM HA:=by subst hX;exact(((bM.nil _).alloc _).alloc _).alloc _
 clear hX;refine bX ?_;simp only[↓zP,zJ,seval,yI,oL lv];refine bO (g1 _) ?_
 cases x with
 |none=>simp only[↓zP,zJ,seval,Br];refine bO (sV _) ?_;simp only[↓zP,zJ,seval,SD,SU,oL jO];refine⟨rfl,_,by simp only[↓zP,zR,seval,SU];rfl,?_⟩;rfl
 |some x=>
 simp only[↓zP,zJ,seval,An,RB,oL lw];refine bO (g2 _) ?_
 cases y with
 |none=>simp only[↓zP,zJ,seval,Br];refine bO (sV _) ?_;simp only[↓zP,zJ,seval,SD,SU,oL jO];refine⟨rfl,_,by simp only[↓zP,zR,seval,SU];rfl,?_⟩;rfl
 |some y=>
 simp only[↓zP,zJ,seval,An];refine bY ?_;obtain⟨rfl,fx1,fx2⟩:=hv.some;obtain⟨rfl,fy1,fy2⟩:=hw.some;have hx:=pO (dA x.num) (dA x.den);have hy:=pO (dA y.num) (dA y.den);change (cQ x).length=36/\(cQ x).take 18=_/\(cQ x).drop 18=_/\_ at hx;change (cQ y).length=36/\(cQ y).take 18=_/\(cQ y).drop 18=_/\_ at hy;have dx:((x.den:Nat):Int)≠0:=by have :=x.den_nz;omega
 have dy:((y.den:Nat):Int)≠0:=by have :=y.den_nz;omega
 have ixd:dS (cI x.den) (some (x.den:Int)):=.enc (by simpa using fx2);have iyd:dS (cI y.den) (some (y.den:Int)):=.enc (by simpa using fy2);have k1:=CC (.enc fx1) iyd;have k2:=CC (.enc fy1) ixd;have r1:Nl (some x.num) (some (y.den:Int))=some (Rat.divInt x.num y.den):=by simp only[Nl];rw[if_neg dy]
 have r2:Nl (some y.num) (some (x.den:Int))=some (Rat.divInt y.num x.den):=by simp only[Nl];rw[if_neg dx]
 have f1:=ZV dy fx1 iyd.fit;have f2:=ZV dx fy1 ixd.fit;obtain⟨t1,t2⟩:=qd x y;rw[r1] at k1;rw[r2] at k2
 have DZ:Wb (some x) (some y)=if Qo (x*y) then some (x*y) else none:=rfl
 rw[DZ];clear r1 r2 DZ;generalize Rat.divInt x.num y.den=a at *;generalize Rat.divInt y.num x.den=b at *;generalize x*y=z at *;generalize fx:(if Qo z then some z else none)=zr at *;change ∀H,Sg 106 [.agg (cI x.num),.agg (cI y.den)] H (.ret (.agg (cQ a))) H at k1;change ∀H,Sg 106 [.agg (cI y.num),.agg (cI x.den)] H (.ret (.agg (cQ b))) H at k2;have la:=pO (dA a.num) (dA a.den);have lb:=pO (dA b.num) (dA b.den);change (cQ a).length=36/\(cQ a).take 18=_/\(cQ a).drop 18=_/\(cQ a).take 36=cQ a/\(cQ a).drop 36=_ at la;change (cQ b).length=36/\(cQ b).take 18=_/\(cQ b).drop 18=_/\(cQ b).take 36=cQ b/\(cQ b).drop 36=_ at lb;have m1:=tI (.enc f1.1) (.enc f2.1);have m2:=tI (.enc (z:=(a.den:Int)) (by simpa using f1.2)) (.enc (z:=(b.den:Int)) (by simpa using f2.2));have n1:lO (some a.num) (some b.num)=norm z.num:=by rw[t1];rfl
 have n2:lO (some (a.den:Int)) (some (b.den:Int))=norm (z.den:Int):=by rw[t2,Int.natCast_mul];rfl
 rw[n1] at m1;rw[n2] at m2;have lo:∀x,(cO x).length=18:=fun x=>mC x;clear n1 n2 t1 t2;refine cY fun f hf=>?_;have nt:f 2=.ref 0 0:=by subst hf;simp only[zB,seval]
 have Vl:f 3=.ref 1 0:=by subst hf;simp only[zB,seval]
 have Nf:f 4=.ref 2 0:=by subst hf;simp only[zB,seval]
 clear hf;refine bX ?_;refine gZ 2 A1 (bM.at2 (by assumption)) fun H1 nn1 e1=>?_;simp only[↓zP,zJ,seval,zD,nt,Vl,e1,yI,RB,DX,hx,hy,oL (dA _)];refine dM (k1 _) ?_;simp only[↓zP,zJ,seval,zD,nt,Vl,e1,yI,RB,hx,hy,oL (dA _)];refine dM (k2 _) ?_;simp only[↓zP,zG,seval,zD,reduceCtorEq,zI,e1,la,lb,oL jO];refine bY ?_;have hf1:bM H1:=fun j hj=>by rw[e1];exact hf j A0
 generalize hX:aA.set _ 4 (.cells (cQ b) false)=HB;have h2:HB.get 2=some (.cells NY false):=by subst hX;simp only[zI,seval,e1,SD]
 have h3:HB.get 3=some (.cells (cQ a) false):=by subst hX;simp only[zI,seval]
 have h4:HB.get 4=some (.cells (cQ b) false):=by subst hX;simp only[zI,seval]
 have hn5:HB.next=5:=by subst hX;simp only[zI,seval,nn1,DX]
 have hfB:bM HB:=by subst hX;refine(((hf1.set ?_ _).set ?_ _).set ?_ _).set ?_ _<;>simp only[zI,seval,nn1,DX]
 clear hX e1 nn1 hf hf1 yI RB SD DX HA H1;refine cY fun f' hf=>?_;have k4:=Ks hf Nf;have k5:f' 5=.ref 3 0:=by subst hf;simp only[zB,seval]
 have k6:f' 6=.ref 4 0:=by subst hf;simp only[zB,seval]
 clear hf nt Vl Nf f;refine bX ?_;refine gZ 2 A1 hfB.at2 fun H1 nn1 e1=>?_;simp only[↓zP,zJ,seval,zD,k5,k6,e1,h3,h4,hn5,la,lb];refine dM (m1 _) ?_;simp only[↓zP,zJ,seval,zD,k5,k6,e1,h3,h4,la,lb,oL (dA _)];refine dM (m2 _) ?_;simp only[↓zP,zJ,seval,zD,e1,lo,oL NX];refine bY ?_;generalize hX:aA.set _ 6 (.cells (cO (norm (z.den:Int))) false)=HC
 replace h2:HC.get 2=some (.cells NY false):=by subst hX;simp only[zI,seval,e1,h2]
 have h5:HC.get 5=some (.cells (cO (norm z.num)) false):=by subst hX;simp only[zI,seval]
 have h6:HC.get 6=some (.cells (cO (norm (z.den:Int))) false):=by subst hX;simp only[zI,seval]
 clear hX e1 nn1 hfB h3 h4 hn5 HB H1;refine cY fun f hf=>?_;have j4:=Ks hf k4;have j7:f 7=.ref 5 0:=by subst hf;simp only[zB,seval]
 have j8:f 8=.ref 6 0:=by subst hf;simp only[zB,seval]
 clear hf k4 k5 k6 f';refine aT fun K hK=>?_;by_cases c1:z.num.natAbs<W^16
 . have e1:norm z.num=some z.num:=by unfold norm;rw[if_pos c1]
   rw[e1] at h5;have z0:(cO (some z.num)).getD 0 aB=.bool false:=rfl;by_cases c2:z.den<W^16
   . have e2:norm (z.den:Int)=some (z.den:Int):=(by unfold norm;rw[if_pos (by simpa using c2)]);rw[e2] at h6;have z1:(cO (some (z.den:Int))).getD 0 aB=.bool false:=rfl;rw[if_pos (show Qo z from ⟨c1,c2⟩)] at fx;have c0:∀x:Int,cO (some x)=cI x:=fun _=>rfl;have r1:=pO (dA z.num) NX;have r2:=pO (dA z.num) (dA z.den);have r3:cI z.num++cI z.den=cQ z:=rfl;have r4:=oL (OP z);rw[r3] at r2;simp only[↓zP,zJ,seval,j7,j8,h5,h6,lo,z0,z1];apply hK;clear hK K;simp only[↓zP,zJ,seval,j4,j7,j8,h2,h5,h6,c0,dA,oL (dA _),r1,r2,r3,oL jO,show List.drop 18 NY=AV.bool false::AV.bool false::wC zs from rfl];refine⟨rfl,_,by simp only[↓zP,zR,seval,j4,r4];rfl,?_⟩;rw[<-fx];rfl
   have e2:norm (z.den:Int)=none:=(by unfold norm;rw[if_neg (by simpa using c2)]);rw[e2] at h6;have z1:(cO none).getD 0 aB=.bool true:=rfl;rw[if_neg (show ¬Qo z from fun h=>c2 h.2)] at fx;simp only[↓zP,zJ,seval,j7,j8,h5,h6,lo,z0,z1];exact Za6
 have e1:norm z.num=none:=by unfold norm;rw[if_neg c1]
 rw[e1] at h5;have z0:(cO none).getD 0 aB=.bool true:=rfl;rw[if_neg (show ¬Qo z from fun h=>c1 h.1)] at fx;simp only[↓zP,zJ,seval,j7,h5,lo,z0];exact Za6
theorem wD.mul{x y:Option Rat}:wD (LD (Wb x y)) (Wb x y):=by
 cases x with
 |none=>exact .bad
 |some x=>cases y with
  |none=>exact .bad
  |some y=>
   simp only[Wb];split
   . rename_i h;exact .enc h
   exact .bad
theorem wD.add{x y:Option Rat}{v w:List AV}(hv:wD v x)(hw:wD w y):wD (LD (ky x y)) (ky x y):=by
 cases x with
 |none=>exact .bad
 |some x=>cases y with
  |none=>exact .bad
  |some y=>exact wD.mk .add .mul
def rV(a b:Int):Int:=if a<b then -1 else if b<a then 1 else 0
def AR:Option Rat->Option Rat->Int
 |some x,some y=>rV (x.num*y.den) (y.num*x.den)
 |none,none=>0
 |none,_=> -1
 |_,none=>1
theorem FM(a b:Int): -1<=rV a b/\rV a b<=1:=by unfold rV;split<;>(try split)<;>omega
theorem me{n1 d1 n2 d2:Int}(h1:0<d1)(h2:0<d2):
 (n1.fdiv d1≠n2.fdiv d2->rV (n1*d2) (n2*d1)=rV (n1.fdiv d1) (n2.fdiv d2))/\
 (n1.fdiv d1=n2.fdiv d2->rV (n1*d2) (n2*d1)=rV (n1.fmod d1*d2) (n2.fmod d2*d1))/\0<=n1.fmod d1/\n1.fmod d1<d1/\0<=n2.fmod d2/\n2.fmod d2<d2:=by
 have e1:=Int.fmod_add_mul_fdiv n1 d1;have e2:=Int.fmod_add_mul_fdiv n2 d2;have a1:=Int.fmod_nonneg_of_pos n1 h1;have a2:=Int.fmod_nonneg_of_pos n2 h2;have b1:=Int.fmod_lt_of_pos n1 h1;have b2:=Int.fmod_lt_of_pos n2 h2;generalize n1.fdiv d1=q1 at *;generalize n2.fdiv d2=q2 at *;generalize n1.fmod d1=r1 at *;generalize n2.fmod d2=r2 at *;have f1:n1*d2=r1*d2+q1*(d1*d2):=by rw[<-e1,Int.add_mul,Dy d1 q1,Int.mul_assoc]
 have f2:n2*d1=r2*d1+q2*(d1*d2):=by rw[<-e2,Int.add_mul,Dy d2 q2,Int.mul_assoc,Dy d2 d1]
 have p:0<d1*d2:=Dm h1 h2;have u1:0<=r1*d2/\r1*d2<d1*d2:=⟨Ec a1 A0,Fb b1 h2⟩;have u2:0<=r2*d1/\r2*d1<d1*d2:=⟨Ec a2 A0,by rw[Dy d1 d2];exact Fb b2 h1⟩;rw[f1,f2];generalize d1*d2=D at *;generalize r1*d2=x1 at *;generalize r2*d1=x2 at *;refine⟨fun h=>?_,fun h=>?_,a1,b1,a2,b2⟩
 . unfold rV
   rcases Jv h with h|h
   . have :(q1+1)*D<=q2*D:=Int.mul_le_mul_of_nonneg_right A0 A0;rw[Int.add_mul,Int.one_mul] at this;rw[if_pos A0,if_pos A0]
   have :(q2+1)*D<=q1*D:=Int.mul_le_mul_of_nonneg_right A0 A0;rw[Int.add_mul,Int.one_mul] at this;rw[if_neg A0,if_pos A0,if_neg A0,if_pos A0]
 subst h;unfold rV;split<;>split<;>(try split)<;>(try split)<;>omega
theorem aAe(a b c d:Int):rV (a*d) (c*b)= -rV (b*c) (d*a):=by rw[Dy b c,Dy d a];unfold rV;split<;>split<;>(try split)<;>(try split)<;>omega
theorem aKw{v w:List AV}{x y:Option Rat}(hv:wD v x)(hw:wD w y)(H:aA):Sg 42 [.agg v,.agg w] H (.ret (.int .i64 (AR x y))) H:=by
 refine So bJz (by simp only[sf,hv.free,hw.free]) ?_ H;unfold W42;dsimp only;have g1:=xP hv;have g2:=xP hw;have lv:=hv.len;have lw:=hw.len;have dA:∀z,(cI z).length=18:=fun z=>cJ z;have gun:∀b A B,fD aB b A B=B:=fun _ _ _=>rfl;refine bX ?_;refine Tz ?_;refine gG ?_;refine Dz ?_;simp only[↓zP,zJ,seval,zD,oL lv];refine dM (g1 _) ?_;simp only[↓zP,zJ,seval,zD,oL lw];refine dM (g2 _) ?_;simp only[↓zP,zJ,seval,zD];refine bY ?_;refine aT fun K hK=>?_;refine aP ?_
 cases x with
 |none=>
  cases y<;>
  . simp only[↓zP,zJ,seval,Br,An];exact Zaa
 |some x=>cases y with
  |none=>simp only[↓zP,zJ,seval,Br,An];exact⟨rfl,_,by simp only[↓zP,zR,seval];rfl,rfl⟩
  |some y=>
   simp only[↓zP,zJ,seval,An];apply hK;clear hK K;obtain⟨rfl,fx1,fx2⟩:=hv.some;obtain⟨rfl,fy1,fy2⟩:=hw.some;have dx:(0:Int)<x.den:=(by have :=x.den_nz;omega);have dy:(0:Int)<y.den:=(by have :=y.den_nz;omega);simp only[AR];generalize hX:((aA.mk 0 .nil).alloc _).alloc _=HA;have h0:HA.get 0=some (.cells (cI x.num++cI x.den) false):=(by subst hX;simp only[zI,seval];rfl);have h1:HA.get 1=some (.cells (cI y.num++cI y.den) false):=(by subst hX;simp only[zI,seval];rfl);clear hX;have fxd:(x.den:Int).natAbs<W^16:=(by simpa using fx2);have fyd:(y.den:Int).natAbs<W^16:=(by simpa using fy2);generalize (x.den:Int)=d1 at *;generalize (y.den:Int)=d2 at *;generalize x.num=n1 at *;generalize y.num=n2 at *;generalize hC:rV (n1*d2) (n2*d1)=C at *;refine cY fun f hf=>?_;have f2:f 2=.ref 0 0:=ZaN;have f3:f 3=.ref 1 0:=ZaN;clear hf;refine bX ?_;refine Tz ?_;refine gG ?_;refine Tx ?_;refine bY ?_;refine aT fun K hK=>?_
   refine aP (iA [7] (fun m vs H'=>∃n1 d1 n2 d2 s:Int,vs=[.int .i64 s]/\m=d1.natAbs/\0<d1/\0<d2/\n1.natAbs<W^16/\n2.natAbs<W^16/\d1.natAbs<W^16/\d2.natAbs<W^16/\(s=1\/s= -1)/\C=s*rV (n1*d2) (n2*d1)/\
    H'.get 0=some (.cells (cI n1++cI d1) false)/\H'.get 1=some (.cells (cI n2++cI d2) false)) d1.natAbs (by rfl) ?_ ?_)
   . exact⟨n1,d1,n2,d2,1,by simp only[sm,zB,seval],rfl,dx,dy,fx1,fy1,fxd,fyd,.inl rfl,by rw[hC];omega,h0,h1⟩
   clear hC h0 h1 fx1 fy1 fxd fyd dx dy g1 g2 hv hw lv lw fx2 fy2;rintro m f' H1 hk ⟨n1,d1,n2,d2,s,nQ,rfl,p1,p2,k1,k2,k3,k4,hs,hC,h0,h1⟩;simp only[zM] at nQ;have j2:f' 2=.ref 0 0:=(by rw[hk 2 rfl];simp only[zB,seval];exact f2);have j3:f' 3=.ref 1 0:=ZaX;obtain⟨r1,r2,r3,r4,r5,r6⟩:=me (n1:=n1) (n2:=n2) p1 p2;refine aP ?_
   have stop:∀DC:cW,DC 7=.int .i64 C->∀H2,K DC [] H2:=by intro DC q7 H2;apply hK;clear hK K;simp only[↓zP,zG,seval,q7];refine Rx ?_;rfl
   clear hK;have c0:∀x:Int,cO (some x)=cI x:=fun _=>rfl;have i1:dS (cI n1) (some n1):=.enc k1;have i2:dS (cI d1) (some d1):=.enc k3;have i3:dS (cI n2) (some n2):=.enc k2;have i4:dS (cI d2) (some d2):=.enc k4;have u1:rW (some n1) (some d1)=(some (n1.fdiv d1),some (n1.fmod d1)):=(by simp only[rW];rw[if_neg A0]);have u2:rW (some n2) (some d2)=(some (n2.fdiv d2),some (n2.fmod d2)):=(by simp only[rW];rw[if_neg A0]);have q1:=KV i1 i2;have q2:=KV i3 i4;have m1:=yi i1 i2;have m2:=yi i3 i4;have iq1:=dS.aHv (y:=some d1) i1;have iq2:=dS.aHv (y:=some d2) i3;have ir1:=dS.aYc (x:=some n1) i2;have ir2:=dS.aYc (x:=some n2) i4;rw[u1] at q1 m1 iq1 ir1;rw[u2] at q2 m2 iq2 ir2;have cm:=FB iq1 iq2;have sg1:=qR ir1;have sg2:=qR ir2;have ec:kW (some (n1.fdiv d1)) (some (n2.fdiv d2))=rV (n1.fdiv d1) (n2.fdiv d2):=rfl;have hh1:=pO (dA n1) (dA d1);have hh2:=pO (dA n2) (dA d2)
   have wm:∀t:Int,-1<=t->t<=1->IntKind.i64.wrap (s*t)=s*t:=fun t a b=>by
    rcases hs with rfl|rfl
    . rw[Int.one_mul];exact wrap_i64 A0 A0
    rw[Int.neg_one_mul];exact wrap_i64 A0 A0
   obtain⟨cr1,cr2⟩:=FM (n1.fdiv d1) (n2.fdiv d2);refine aT fun K2 dL=>?_;refine bX ?_;refine Dz ?_;simp only[↓zP,zJ,seval,zD,j2,h0,hh1,oL (dA _)];refine dM (q1 _) ?_;simp only[↓zP,zJ,seval,zD,j3,h1,hh2,oL (dA _)];refine dM (q2 _) ?_;simp only[seval];refine dM (cm _) ?_;simp only[↓zP,zJ,seval,zD,ec];refine bY ?_;by_cases hq:n1.fdiv d1=n2.fdiv d2
   . have e0:(rV (n1.fdiv d1) (n2.fdiv d2) != 0)=false:=(by rw[hq];unfold rV;simp);simp only[↓zP,zG,seval,e0];apply dL;clear dL K2 r1
     replace r2:=r2 hq
     clear hq e0 q1 q2 cm ec iq1 iq2 u1 u2 cr1 cr2;generalize hr1:n1.fmod d1=r1 at *;generalize ZG:n2.fmod d2=Xw at *;rw[c0] at ir1 ir2;simp only[c0] at sg1 sg2;have AD:=pO (dA d1) (dA r1);have JA:=pO (dA d2) (dA Xw);have hz1:=pO (dA d1) NX;have hz2:=pO (dA d2) NX;refine bX ?_;refine Dz ?_;simp only[↓zP,zJ,seval,zD,j2,h0,hh1,oL (dA _)];refine dM (m1 _) ?_;simp only[↓zP,zJ,seval,zD,j3,h1,hh2,oL (dA _),c0,hz1];refine dM (m2 _) ?_;simp only[↓zP,zJ,seval,zD,j2,j3,h0,h1,hh1,hh2,oL (dA _),c0,hz2,AD,JA];refine bY ?_;generalize hX:(H1.set 0 _).set 1 _=HB;have b0:HB.get 0=some (.cells (cI d1++cI r1) false):=(by subst hX;simp only[zI,seval]);have b1:HB.get 1=some (.cells (cI d2++cI Xw) false):=(by subst hX;simp only[zI,seval]);clear hX h0 h1;refine cY fun g hf=>?_;have g2:=Ks hf j2;have g3:=Ks hf j3;have g7:=Ks hf nQ;clear hf;refine bX ?_;refine Dz ?_;simp only[↓zP,zJ,seval,zD,g2,b0,AD,oL (dA _)];refine dM (sg1 _) ?_;simp only[↓zP,zJ,seval,zD,g3,b1,JA,oL (dA _)];refine dM (sg2 _) ?_;simp only[↓zP,zJ,seval,zD];refine bY ?_;refine aT fun K2 dL=>?_;by_cases z1:r1=0
     . have es1:fV (some r1)=0:=by rw[z1];rfl
       have e3:s*(0 -fV (some Xw))=s*rV (r1*d2) (Xw*d1):=by
        congr 1;rw[z1,Kl];simp only[fV,rV];by_cases z2:Xw=0
        . rw[z2];simp
        have :=Dm (show 0<Xw by omega) p1;rw[if_neg A0,if_neg z2,if_pos this];rfl
       have e4: -1<=0 -fV (some Xw)/\0 -fV (some Xw)<=1:=(by simp only[fV];split<;>(try split)<;>omega);have w1:IntKind.i64.wrap (0 -fV (some Xw))=0 -fV (some Xw):=wrap_i64 A0 A0;have w2:=wm _ e4.1 e4.2;simp only[↓zP,zG,seval,es1,g7,w1,w2,show((0:Int)==0)=true from rfl];refine stop _ ?_ _;simp only[zB,seval];rw[e3,hC,r2]
     have es1:fV (some r1)=1:=(by simp only[fV];rw[if_neg A0,if_neg z1]);by_cases z2:Xw=0
     . have es2:fV (some Xw)=0:=by rw[z2];rfl
       have e3:s*(1 -0)=s*rV (r1*d2) (Xw*d1):=by congr 1;rw[z2,Kl];have :=Dm (show 0<r1 by omega) p2;simp only[rV];rw[if_neg A0,if_pos this];rfl
       have w2:=wm 1 A0 A0;simp only[↓zP,zG,seval,es1,es2,g7,show((1:Int)==0)=false from rfl,show((0:Int)==0)=true from rfl,show IntKind.i64.wrap 1=1 from rfl,w2];refine stop _ ?_ _;simp only[zB,seval];rw[hC,r2,<-e3];rfl
     have es2:fV (some Xw)=1:=(by simp only[fV];rw[if_neg A0,if_neg z2]);have w2:IntKind.i64.wrap (-s)= -s:=wrap_i64 A0 A0;have w3:IntKind.i64.wrap (0 -s)= -s:=wI A0;simp only[↓zP,zG,seval,es1,es2,show((1:Int)==0)=false from rfl];apply dL;clear dL K2;simp only[↓zP,zJ,seval,g7,w3];refine⟨r1.natAbs,by omega,d1,r1,d2,Xw,-s,rfl,rfl,by omega,by omega,k3,k4,ir1.fit,ir2.fit,by omega,?_,b0,b1⟩;rw[hC,r2,aAe r1 d1 Xw d2,Jf,Hh]
   have e0:(rV (n1.fdiv d1) (n2.fdiv d2) != 0)=true:=by
    unfold rV
    rcases Jv hq with h|h
    . rw[if_pos h];rfl
    rw[if_neg A0,if_pos h];rfl
   have wv:=wm _ cr1 cr2;simp only[↓zP,zG,seval,e0,nQ,wv];refine stop _ ?_ _;simp only[zB,seval];rw[hC,r1 hq]
theorem Lz{c:Nat->List AV}(h:∀i,i<3->(c i).length=36):(c3 c).length=108:=by simp[c3,h 0 A1,h 1 A1,h 2 A1]
theorem aDs{c:Nat->List AV}(h:∀i,i<3->(c i).length=36){i:Nat}(hi:i<3):((c3 c).drop (i*36)).take 36=c i:=by
 have h0:=h 0 A1;have h1:=h 1 A1;have h2:=h 2 A1
 match i,hi with
 |0,_=>simp[c3,h0]
 |1,_=>simp[c3,h0,h1]
 |2,_=>simp[c3,Fq,h0,h1,Bo (show(c 0).length<=72 by omega),Bb (show(c 2).length<=36 by omega)]
def vf(v:List AV)(x:Nat->Option Rat):Prop:=∃c,v=c3 c/\∀i,i<3->wD (c i) (x i)
theorem vf.len{v:List AV}{x:Nat->Option Rat}(h:vf v x):v.length=108:=by obtain⟨c,rfl,hc⟩:=h;exact Lz fun i hi=>(hc i hi).len
theorem vf.free{v:List AV}{x:Nat->Option Rat}(h:vf v x):cM v=true:=by obtain⟨c,rfl,hc⟩:=h;exact iI fun i hi=>(hc i hi).free
def sQ(x y:Nat->Option Rat):Nat->Option Rat
 |0=>some ((0:Int):Rat)
 |i+1=>ky (sQ x y i) (Wb (x i) (y i))
theorem wD.int{z:Int}(h0: -2^63<=z)(h1:z<2^63):wD (cQ z) (Option.some (z:Rat)):=
 .enc ⟨Ce (show z.natAbs<=2^63 by omega) A1,show(1:Nat)<W^16 by decide⟩
theorem wD.sQ(x y:Nat->Option Rat):∀i,wD (LD (sQ x y i)) (sQ x y i)
 |0=>.int (z:=0) A1 A1
 |i+1=>.add (.sQ x y i) .mul
theorem ru{v w:List AV}{x y:Nat->Option Rat}(hv:vf v x)(hw:vf w y)(H:aA):Sg 104 [.agg v,.agg w] H (.ret (.agg (LD (sQ x y 3)))) H:=by
 refine Sp aZt (by simp only[sf,hv.free,hw.free]) (by simp only[sf,nO]) ?_ H;unfold aOn;dsimp only;obtain⟨a,rfl,ha⟩:=hv;obtain⟨b,rfl,hb⟩:=hw;have la:∀i,i<3->(a i).length=36:=fun i hi=>(ha i hi).len;have lb:∀i,i<3->(b i).length=36:=fun i hi=>(hb i hi).len;have o0:=Pz (z:=0) A1 A1;have hl:=qS;have l0:=OP ((0:Int):Rat);refine bX ?_;simp only[↓zP,zG,seval,zK];refine gG ?_;simp only[↓zP,seval,zI];refine bO (o0 _) ?_;simp only[↓zP,zJ,seval,l0,oL jO];refine bY ?_;generalize hX:aA.set _ 3 _=HB;have b0:HB.get 0=some (.cells (c3 a) false):=by subst hX;simp only[zI,seval]
 have b1:HB.get 1=some (.cells (c3 b) false):=by subst hX;simp only[zI,seval]
 have b2:HB.get 2=some (.cells NY false):=by subst hX;simp only[zI,seval]
 have b3:HB.get 3=some (.cells (cQ ((0:Int):Rat)) false):=by subst hX;simp only[zI,seval]
 clear hX;refine cY fun f hf=>?_;have f2:f 2=.ref 0 0:=by subst hf;simp only[zB,seval]
 have f3:f 3=.ref 1 0:=by subst hf;simp only[zB,seval]
 have f4:f 4=.ref 2 0:=by subst hf;simp only[zB,seval]
 have f5:f 5=.ref 3 0:=by subst hf;simp only[zB,seval]
 clear hf;refine aT fun K hK=>?_;refine bX ?_;refine Tz ?_;refine bY ?_;refine fC [] (fun i _ H'=>H'.get 0=some (.cells (c3 a) false)/\H'.get 1=some (.cells (c3 b) false)/\H'.get 2=some (.cells NY false)/\H'.get 3=some (.cells (LD (sQ x y i)) false)) 3 A1 rfl A1 ?_ ?_ ?_ ?_
 . exact zq
 . exact⟨b0,b1,b2,b3⟩
 . rintro i f' H hi hk e1 ⟨g0,g1,g2,g3⟩;have k2:f' 2=.ref 0 0:=by rw[hk 2 rfl];simp only[zB,seval];exact f2
   have k3:f' 3=.ref 1 0:=ZaX;have k5:f' 5=.ref 3 0:=(by rw[hk 5 rfl];simp only[zB,seval];exact f5);refine aP ?_;refine bX ?_;simp only[↓zP,zG,seval,e1];refine bY ?_;refine Dz ?_;simp only[↓zP,zJ,seval,zD,k2,k3,k5,aG,hi,g0,g1,g3,Lz la,Lz lb,aDs la hi,aDs lb hi,show i*36+36<=108 by omega,hl,oL (hl _)];refine dM (aKx (ha i hi) (hb i hi) _) ?_;simp only[seval];refine dM (aKv (wD.sQ x y i) (wD.mul (x:=x i) (y:=y i)) _) ?_;simp only[↓zP,zJ,seval,zD,k5,g3,hl,oL (hl _)];exact⟨g0,g1,g2,rfl⟩
 rintro f' H hk ⟨g0,g1,g2,g3⟩;have k4:f' 4=.ref 2 0:=by rw[hk 4 rfl];simp only[zB,seval];exact f4
 have k5:f' 5=.ref 3 0:=by rw[hk 5 rfl];simp only[zB,seval];exact f5
 refine Tx ?_;apply hK;clear hK K;simp only[↓zP,zJ,seval,k4,k5,g2,g3,hl,oL (hl _),oL jO];refine⟨rfl,_,by simp only[↓zP,zR,seval,k4,hl,oL (hl _)];rfl,?_⟩;rfl
end Go.Proofs.YtogfcjbgeebfkaaGreatDoor
namespace Go.Proofs.YtogfcjbgeebfkaaGreatDoor
open Go Go.Av Go.lP Go.aD
attribute [local congr] aY aS aV aQ bD aX aW aH bE
attribute [local irreducible] FC bT eX
def CM{α:Type}(x:α->Option Int)(T:List α):Option Int:=T.foldl (fun s t=>vJ s (x t)) (some 0)
theorem MH{α:Type}(x:α->Option Int)(T:List α)(t:α):CM x (T++[t])=vJ (CM x T) (x t):=by simp[CM]
theorem dS.CM{α:Type}(x:α->Option Int)(T:List α):dS (cO (CM x T)) (CM x T):=by
 rcases List.eq_nil_or_concat T with rfl|⟨T',t,rfl⟩
 . exact .enc A1
 rw[List.concat_eq_append,MH];exact .add
theorem XO{l:List aD.V}{M:Nat}(hl:∀v∈l,bL M v)(hM:M<=2^18){t:Nat×Nat×Nat}(h1:t.1<l.length)(h2:t.2.1<l.length)(h3:t.2.2<l.length):(uL l t).natAbs<=2^60:=by
 have vn:∀k,k<l.length->bL M (gP l k):=fun k hk=>by
  have :gP l k=l[k]:=by simp[gP,List.getD,hk]
  rw[this];exact hl _ (Ah hk)
 have :=mH (iD (vn _ h1) (vn _ h2)) (vn _ h3);have hMM:M*M<=2^18*2^18:=Ba hM hM;have hM3:2*(M*M)*M<=2^37*2^18:=Ba A0 hM;show(dot (aU _ _) _).natAbs<=_;omega
theorem Wi{H H':aA}(h:Over H H'){r:Nat}{o:eY}(hr:H.get r=some o)(hn:r<H.next):H'.get r=some o:=(h.same r hn).trans hr
def IV(l:List aD.V)(r:Nat)(T:List (Nat×Nat×Nat))(H:aA):Prop:=r<H.next/\H.get r=some (.cells (cO (CM (fun t=>some (uL l t)) T)) false)
theorem aFq{l:List aD.V}{M:Nat}(hl:∀v∈l,bL M v)(hM:M<=2^18)(r:Nat):yj l 139 r (IV l r):=by
 intro T t H h1 h2 h3 hr hfu ⟨_,hI⟩;have hd:dS (cI (uL l t)) (some (uL l t)):=.enc (Ce (XO hl hM h1 h2 h3) A1);have ad:=KQ (dS.CM (fun t=>some (uL l t)) T) hd;rw[<-MH] at ad;have lo:∀x,(cO x).length=18:=fun x=>mC x;have l9:(EE l t).length=9:=rfl;have ld:=cJ (uL l t);generalize hE:CM (fun t=>some (uL l t)) (T++[t])=E at *;generalize CM (fun t=>some (uL l t)) T=D at *
 obtain⟨_,H',⟨rfl,h⟩,hS⟩:=eH (R:=fun o H'=>o=.ret (pA [])/\(H'.get r=some (.cells (cO E) false)/\NI H H' r/\bM H')) fit aNg (args:=[.agg (cI (uL l t)),.agg (EE l t),.ref r 0]) (H:=H) (Al rfl) (by
  unfold aGh;dsimp only;refine bX ?_;refine Tz ?_;refine bY ?_;generalize hX:(aA.alloc _ _).alloc _=HA;have a0:HA.get H.next=some (.cells (cI (uL l t)) false):=by subst hX;rw[aA.aI,if_neg A2,aA.aI,if_pos rfl]
  have ar:HA.get r=some (.cells (cO D) false):=by subst hX;rw[aA.aI,if_neg Zaf,aA.aI,if_neg A0];exact hI
  have aO:Over H HA:=by subst hX;exact((Over.refl H).alloc _).alloc _
  have aF:bM HA:=by subst hX;exact(hfu.alloc _).alloc _
  clear hX;simp only[↓zP,zJ,seval,a0,ar,lo,oL (lo _),ld,oL ld];refine bO (ad _) ?_;simp only[↓zP,zJ,seval,ar,lo,oL (lo _)]
  exact⟨rfl,[],rfl,rfl,by rw[aA.aC,if_pos rfl],(NI.of aO).set _,aF.set (by have :=aO.le;omega) _⟩)
 exact⟨H',hS,⟨by have :=h.2.1.1;omega,by rw[hE];exact h.1⟩,h.2.1,h.2.2⟩
def NK(S:List (aD.V×Int))(L:aD.V×Int->List Nat):List (Nat×Nat×Nat):=S.flatMap fun q=>mX (L q)
def NW(l:List aD.V)(S:List (aD.V×Int))(L:aD.V×Int->List Nat):Option Int:=CM (fun t=>some (uL l t)) (NK S L)
theorem YI{tag:Nat}(ht:Nat.blt tag 2=true){l:List aD.V}{M:Nat}(hl:∀v∈l,bL M v)(hM:M<=2^18)(hlen:l.length<=64){S:List (aD.V×Int)}{L:aD.V×Int->List Nat}(hS:qZ l S L)(cG:S≠[])(asc:MM (gP l) l.length)(H:aA):
 Sg 58 [.agg [.bC tag 3 (bK l)]] H (.ret (.agg (cO (NW l S L)))) H:=by
 refine So bEe Zao ?_ H;unfold W58;dsimp only;have o0:=tJ (z:=0) A1 A1;have l0:=cJ 0;have lo:∀x,(cO x).length=18:=fun x=>mC x;refine bX ?_;refine Tz ?_;refine gG ?_;simp only[↓zP,seval,zI];refine bO (o0 _) ?_;simp only[↓zP,zJ,seval,l0,oL NX];refine bY ?_;generalize hX:aA.set _ 2 _=HA;have a0:HA.get 0=some (.cells [.bC tag 3 (bK l)] false):=by subst hX;simp only[zI,seval]
 have a1:HA.get 1=some (.cells (.bool false::.bool false::wC zs) false):=by subst hX;simp only[zI,seval]
 have a2:HA.get 2=some (.cells (cI 0) false):=by subst hX;simp only[zI,seval]
 have an:HA.next=3:=by subst hX;rfl
 have aF:bM HA:=by subst hX;exact((((bM.nil _).alloc _).alloc _).alloc _).set (by simp only[zI,seval]) _
 clear hX;obtain⟨_,H9,⟨rfl,hI,AF,hf⟩,hS9⟩:=XM ht hl hM hlen hS cG asc (IV l 2) (fun T H H' ho ⟨h1,h2⟩=>⟨Bj h1 ho.le,Wi ho h2 h1⟩) (aFq hl hM 2) (H0:=HA) A0 ⟨by omega,a2⟩ aF;have b1:=(AF.2 1 A0 A0).trans a1;refine bX ?_;simp only[↓zP,zJ,seval,a0];refine bO (hS9) ?_;refine Tx ?_;refine bY ?_;have vj:H9.get 2=some (.cells (cO (NW l S L)) false):=hI.2;generalize NW l S L=x at *;simp only[↓zP,zJ,seval,vj,b1,lo,oL (lo _),oL NX];refine⟨rfl,_,by simp only[↓zP,zR,seval,lo,oL (lo _)];rfl,?_⟩;rfl
end Go.Proofs.YtogfcjbgeebfkaaGreatDoor
namespace Go.Proofs.YtogfcjbgeebfkaaGreatDoor
open Go Go.Av Go.lP
attribute [local congr] aY aS aV aQ bD aX aW aH bE
attribute [local irreducible] FC bT eX
def Qd:List AV:=NY++(NY++NY)
theorem Xb:[AV.bool false,AV.bool false,AV.int .u32 0,AV.int .u32 0,AV.int .u32 0,AV.int .u32 0,AV.int .u32 0,AV.int .u32 0,AV.int .u32 0,AV.int .u32 0,AV.int .u32 0,AV.int .u32 0,AV.int .u32 0,AV.int .u32 0,AV.int .u32 0,AV.int .u32 0,AV.int .u32 0,AV.int .u32 0,AV.bool false,AV.bool false,AV.int .u32 0,AV.int .u32 0,AV.int .u32 0,AV.int .u32 0,AV.int .u32 0,AV.int .u32 0,AV.int .u32 0,AV.int .u32 0,AV.int .u32 0,AV.int .u32 0,AV.int .u32 0,AV.int .u32 0,AV.int .u32 0,AV.int .u32 0,AV.int .u32 0,AV.int .u32 0,AV.bool false,AV.bool false,AV.int .u32 0,AV.int .u32 0,AV.int .u32 0,AV.int .u32 0,AV.int .u32 0,AV.int .u32 0,AV.int .u32 0,AV.int .u32 0,AV.int .u32 0,AV.int .u32 0,AV.int .u32 0,AV.int .u32 0,AV.int .u32 0,AV.int .u32 0,AV.int .u32 0,AV.int .u32 0,AV.bool false,AV.bool false,AV.int .u32 0,AV.int .u32 0,AV.int .u32 0,AV.int .u32 0,AV.int .u32 0,AV.int .u32 0,AV.int .u32 0,AV.int .u32 0,AV.int .u32 0,AV.int .u32 0,AV.int .u32 0,AV.int .u32 0,AV.int .u32 0,AV.int .u32 0,AV.int .u32 0,AV.int .u32 0,AV.bool false,AV.bool false,AV.int .u32 0,AV.int .u32 0,AV.int .u32 0,AV.int .u32 0,AV.int .u32 0,AV.int .u32 0,AV.int .u32 0,AV.int .u32 0,AV.int .u32 0,AV.int .u32 0,AV.int .u32 0,AV.int .u32 0,AV.int .u32 0,AV.int .u32 0,AV.int .u32 0,AV.int .u32 0,AV.bool false,AV.bool false,AV.int .u32 0,AV.int .u32 0,AV.int .u32 0,AV.int .u32 0,AV.int .u32 0,AV.int .u32 0,AV.int .u32 0,AV.int .u32 0,AV.int .u32 0,AV.int .u32 0,AV.int .u32 0,AV.int .u32 0,AV.int .u32 0,AV.int .u32 0,AV.int .u32 0,AV.int .u32 0]=Qd:=rfl
theorem Xa:Qd.length=108:=rfl
theorem aYi{a b c:List AV}(ha:a.length=36)(hb:b.length=36)(hc:c.length=36):
 (a++Qd.drop 36).length=108/\(a++Qd.drop 36).take 36=a/\(a++b++(a++Qd.drop 36).drop 72).length=108/\(a++b++(a++Qd.drop 36).drop 72).take 72=a++b/\(a++b++(a++Qd.drop 36).drop 72).drop 108=[]/\
 (a++b++c).length=108/\(a++b++c).drop 108=[]/\(a++b++c).take 108=a++b++c:=by
 have hz:=Xa;have l1:(a++Qd.drop 36).length=108:=by simp;omega
 have l2:(a++b++(a++Qd.drop 36).drop 72).length=108:=by rw[Ap,Ap,Ib,l1];omega
 have l3:(a++b++c).length=108:=by rw[Ap,Ap];omega
 refine⟨l1,by rw[<-ha];simp,l2,?_,Bo A0,l3,Bo A0,Bb A0⟩;rw[Cx (by rw[Ap];omega),Bb (by rw[Ap];omega)]
theorem jj{v:aD.V}(hv:∀i,CU (v.at i))(H:aA):Sg 37 [.agg (cE v)] H (.ret (.agg (c3 fun i=>cQ (v.at i)))) H:=by
 refine Sp bDz Zah (by simp only[sf];exact iI fun i _=>nO (some _)) ?_ H;unfold W37;dsimp only;simp only[Xb];have o0:=Pz (hv 0).1 (hv 0).2;have o1:=Pz (hv 1).1 (hv 1).2;have o2:=Pz (hv 2).1 (hv 2).2;have e0:(cE v).getD 0 aB=.int .i64 (v.at 0):=rfl;have e1:(cE v).getD 1 aB=.int .i64 (v.at 1):=rfl;have e2:(cE v).getD 2 aB=.int .i64 (v.at 2):=rfl;have hc3:(c3 fun i=>cQ (v.at i))=cQ (v.at 0)++cQ (v.at 1)++cQ (v.at 2):=by unfold c3;simp
 rw[hc3];have hl:=OP;have fl:=aYi (hl (v.at 0)) (hl (v.at 1)) (hl (v.at 2));refine bX ?_;refine Tz ?_;refine gG ?_;refine Dz ?_;simp only[↓zP,zJ,seval,zD,pZ,aM,e0];refine dM (o0 _) ?_;simp only[↓zP,zJ,seval,zD,pZ,aM,e1];refine dM (o1 _) ?_;simp only[↓zP,zJ,seval,zD,pZ,aM,e2];refine dM (o2 _) ?_;simp only[↓zP,zJ,seval,zD,hl,fl,oL Xa];refine bY ?_;refine Tx ?_;refine⟨rfl,_,by simp only[↓zP,zR,seval,fl];rfl,?_⟩;rfl
theorem aDt{n:aD.V}(hn:∀i,CU (n.at i)){v:List AV}{x:Nat->Option Rat}(hv:vf v x)(H:aA):Sg 192 [.agg (cE n),.agg v] H (.ret (.agg (LD (sQ (fun i=>some (n.at i:Rat)) x 3)))) H:=by refine Sp bBi (by simp only[sf,bV,hv.free]) (by simp only[sf,nO]) ?_ H;unfold aQc;dsimp only;have o:=jj hn;have lv:=hv.len;have iw:vf (c3 fun i=>cQ (n.at i)) (fun i=>some (n.at i:Rat)):=⟨_,rfl,fun i _=>.int (hn i).1 (by have :=(hn i).2;omega)⟩;have inn:=ru iw hv;have lr:=oL (qS (sQ (fun i=>some (n.at i:Rat)) x 3));refine bX ?_;simp only[↓zP,zG,seval,zK];refine gG ?_;refine Dz ?_;simp only[↓zP,zJ,seval,zD,oL (aM n)];refine dM (o _) ?_;simp only[↓zP,zJ,seval,zD,oL lv];refine dM (inn _) ?_;simp only[↓zP,zJ,seval,zD,lr,oL jO];refine bY ?_;refine Tx ?_;refine⟨rfl,_,by simp only[↓zP,zR,seval,lr];rfl,?_⟩;rfl
theorem aAz{l r:List AV}{k:Nat}(h:k<l.length):(l++r).getD k aB=l.getD k aB:=by simp[List.getD,Es h]
theorem Yt{l r:List AV}{n k:Nat}(h:l.length=n)(hk:n<=k):(l++r).getD k aB=r.getD (k -n) aB:=by subst h;simp[List.getD,Gi hk]
theorem wD.flag{v:List AV}{x:Option Rat}(h:wD v x):∃b,v.getD 0 aB=.bool b:=by obtain⟨a,b,n,d,rfl,ha,hb,hx⟩:=h;obtain⟨r,rfl,_⟩:=ha.raw;exact⟨r.b,rfl⟩
theorem aDv{v:List AV}{x:Nat->Option Rat}(hv:vf v x):∃r,∀H:aA,Sg 190 [.agg v] H (.ret (.bool r)) H:=by
 have lv:=hv.len;have fv:=hv.free;obtain⟨c,rfl,hc⟩:=hv;have l3:∀i,i<3->(c i).length=36:=fun i hi=>(hc i hi).len;obtain⟨b0,h0⟩:=(hc 0 A1).flag;obtain⟨b1,h1⟩:=(hc 1 A1).flag;obtain⟨b2,h2⟩:=(hc 2 A1).flag;have q0:=l3 0 A1;have q1:=l3 1 A1;have q2:=l3 2 A1;have g0:(c3 c).getD 0 aB=.bool b0:=by unfold c3;rw[aAz A0,h0]
 have g1:(c3 c).getD 36 aB=.bool b1:=by unfold c3;rw[Yt q0 A0,aAz A0];exact h1
 have g2:(c3 c).getD 72 aB=.bool b2:=by unfold c3;rw[Yt q0 A0,Yt q1 A0];exact h2
 have gun:∀b A B,fD aB b A B=B:=fun _ _ _=>rfl;refine⟨b0||b1||b2,fun H=>?_⟩;refine So bBh (by simp only[sf,fv]) ?_ H;unfold aQb;dsimp only;cases b0<;>cases b1<;>cases b2<;>
 . simp only[↓zP,zJ,seval,pZ,lv,g0,g1,g2];exact ZaB
end Go.Proofs.YtogfcjbgeebfkaaGreatDoor
namespace Go.Proofs.YtogfcjbgeebfkaaGreatDoor
open Go Go.Av Go.lP Go.aD
attribute [local congr] aY aS aV aQ bD aX aW aH bE
attribute [local irreducible] FC bT eX
def sI(l:List aD.V)(t:Nat×Nat×Nat)(i:Nat):Int:=(gP l t.1).at i+(gP l t.2.1).at i+(gP l t.2.2).at i
def sR(l:List aD.V)(i:Nat)(T:List (Nat×Nat×Nat)):Option Int:=CM (fun t=>lO (some (uL l t)) (some (sI l t i))) T
def IC(l:List aD.V)(r:Nat)(T:List (Nat×Nat×Nat))(H:aA):Prop:=r<H.next/\H.get r=some (.cells (c3 fun i=>cO (sR l i T)) false)
theorem Nn{M:Nat}{v:aD.V}(h:bL M v)(i:Nat):(v.at i).natAbs<=M:=by obtain⟨h1,h2,h3⟩:=h;unfold aD.V.at;split<;>assumption
theorem aFf(l:List aD.V)(t:Nat×Nat×Nat){i:Nat}(hi:i<3):(EE l t).getD i aB=.int .i64 ((gP l t.1).at i)/\(EE l t).getD (3+i) aB=.int .i64 ((gP l t.2.1).at i)/\(EE l t).getD (6+i) aB=.int .i64 ((gP l t.2.2).at i):=by
 match i,hi with
 |0,_=>exact⟨rfl,rfl,rfl⟩
 |1,_=>exact⟨rfl,rfl,rfl⟩
 |2,_=>exact⟨rfl,rfl,rfl⟩
theorem aAb{l:List aD.V}{M:Nat}(hl:∀v∈l,bL M v)(hM:M<=2^18)(r:Nat):yj l 148 r (IC l r):=by
 intro T t H h1 h2 h3 hr hfu ⟨_,hI⟩
 have vn:∀k,k<l.length->bL M (gP l k):=fun k hk=>by
  have :gP l k=l[k]:=by simp[gP,List.getD,hk]
  rw[this];exact hl _ (Ah hk)
 have hd:dS (cI (uL l t)) (some (uL l t)):=.enc (Ce (XO hl hM h1 h2 h3) A1);have lo:∀x,(cO x).length=18:=fun x=>mC x;have l9:(EE l t).length=9:=rfl;have ld:=cJ (uL l t);have hg9:=fun i hi=>aFf l t (i:=i) hi
 have hs:∀i,(sI l t i).natAbs<=3*2^18/\((gP l t.1).at i).natAbs<=2^18/\((gP l t.2.1).at i).natAbs<=2^18/\((gP l t.2.2).at i).natAbs<=2^18:=fun i=>by have a1:=Nn (vn _ h1) i;have a2:=Nn (vn _ h2) i;have a3:=Nn (vn _ h3) i;unfold sI;refine⟨?_,?_,?_,?_⟩<;>omega
 have hsn:∀i,sR l i (T++[t])=vJ (sR l i T) (lO (some (uL l t)) (some (sI l t i))):=fun i=>MH _ _ _;have hmo:∀i T,dS (cO (sR l i T)) (sR l i T):=fun i T=>dS.CM _ _;have hsI:∀i,sI l t i=(gP l t.1).at i+(gP l t.2.1).at i+(gP l t.2.2).at i:=fun i=>rfl
 obtain⟨_,H',⟨rfl,h⟩,hS⟩:=eH (R:=fun o H'=>o=.ret (pA [])/\(H'.get r=some (.cells (c3 fun i=>cO (sR l i (T++[t]))) false)/\NI H H' r/\bM H')) fit aNh (args:=[.agg (cI (uL l t)),.agg (EE l t),.ref r 0]) (H:=H) (Al rfl) (by
  unfold aGi;dsimp only;refine bX ?_;refine Tz ?_;refine bY ?_;generalize hX:(aA.alloc _ _).alloc _=HA;have a0:HA.get H.next=some (.cells (cI (uL l t)) false):=by subst hX;rw[aA.aI,if_neg A2,aA.aI,if_pos rfl]
  have a1:HA.get (H.next+1)=some (.cells (EE l t) false):=by subst hX;rw[aA.aI,if_pos A2]
  have ar:HA.get r=some (.cells (c3 fun i=>cO (sR l i T)) false):=by subst hX;rw[aA.aI,if_neg Zaf,aA.aI,if_neg A0];exact hI
  have aO:Over H HA:=by subst hX;exact((Over.refl H).alloc _).alloc _
  have aF:bM HA:=by subst hX;exact(hfu.alloc _).alloc _
  have aN:H.next+1<HA.next:=by subst hX;simp only[aA.bH];omega
  clear hX;refine cY fun f hf=>?_;have f2:f 2=.ref r 0:=by subst hf;simp only[↓zP,zG,seval]
  have f3:f 3=.ref H.next 0:=by subst hf;simp only[zB,seval]
  have f4:f 4=.ref (H.next+1) 0:=by subst hf;simp only[zB,seval,aA.bH]
  clear hf;refine bX ?_;refine Tz ?_;refine bY ?_;refine fC [] (fun k _ H'=>H'.get r=some (.cells (c3 fun j=>if j<k then cO (sR l j (T++[t])) else cO (sR l j T)) false)/\H'.get H.next=some (.cells (cI (uL l t)) false)/\H'.get (H.next+1)=some (.cells (EE l t) false)/\NI H H' r/\bM H'/\H.next+1<H'.next) 3 A1 rfl A1 ?_ ?_ ?_ ?_
  . exact zq
  . refine⟨?_,a0,a1,.of aO,aF,aN⟩;simp only[Ar,Ca];exact ar
  . rintro k f' H1 kR hk e1 ⟨gr,g0,g1,gs,gf,gn⟩;have k2:f' 2=.ref r 0:=by rw[hk 2 rfl];simp only[zB,seval];exact f2
    have k3:f' 3=.ref H.next 0:=ZaX;have k4:f' 4=.ref (H.next+1) 0:=(by rw[hk 4 rfl];simp only[zB,seval];exact f4);have vz:∀j,j<3->(if j<k then cO (sR l j (T++[t])) else cO (sR l j T)).length=18:=fun j _=>by split<;>exact lo _
    have hck:=pG vz kR;rw[if_neg A0] at hck;obtain⟨q0,q1,q2⟩:=hg9 k kR;obtain⟨s0,s1,s2,s3⟩:=hs k;have w1:IntKind.i64.wrap ((gP l t.1).at k+(gP l t.2.1).at k)=(gP l t.1).at k+(gP l t.2.1).at k:=wrap_i64 A0 A0;have w2:IntKind.i64.wrap ((gP l t.1).at k+(gP l t.2.1).at k+(gP l t.2.2).at k)=sI l t k:=(by rw[hsI];exact wrap_i64 A0 A0);have of:=tJ (z:=sI l t k) A0 A0;have mu:=tI hd (dS.enc (z:=sI l t k) (Ce s0 A1));have ad:=KQ (hmo k T) (dS.mul (x:=some (uL l t)) (y:=some (sI l t k)));rw[<-hsn] at ad;refine aP ?_;refine bX ?_;simp only[↓zP,zG,seval,e1];refine bY ?_;refine Dz ?_;simp only[↓zP,zJ,seval,zD,k2,k3,k4,pZ,aG,kR,gr,g0,g1,fI vz,hck,l9,ld,oL ld,q0,q1,q2,w1,w2,show k*18+18<=54 by omega,show k+1<=9 by omega,show 3+k+1<=9 by omega,show 6+k+1<=9 by omega];refine dM (of _) ?_;simp only[seval];refine dM (mu _) ?_;simp only[seval];refine dM (ad _) ?_;simp only[↓zP,zJ,seval,zD,k2,aG,kR,gr,lo,fI vz,show k*18+18<=54 by omega];rw[YP vz kR (lo _),if_neg A0,if_neg A0];refine⟨Ao (fun l=>eY.cells l false) (rA fun j _=>?_),g0,g1,gs.set _,gf.set A0 _,gn⟩;by_cases h:j=k
    . subst h;rw[if_pos rfl,if_pos A0]
    rw[if_neg h];by_cases h2:j<k
    . rw[if_pos h2,if_pos A0]
    rw[if_neg h2,if_neg A0]
  rintro f' H1 hk ⟨gr,g0,g1,gs,gf,gn⟩;have e:(c3 fun j=>if j<3 then cO (sR l j (T++[t])) else cO (sR l j T))=c3 fun i=>cO (sR l i (T++[t])):=rA fun j hj=>if_pos hj;rw[e] at gr
  exact⟨rfl,[],rfl,rfl,gr,gs,gf⟩)
 exact⟨H',hS,⟨by have :=h.2.1.1;omega,h.1⟩,h.2.1,h.2.2⟩
theorem aWz{c:Nat->List AV}(h:∀i,i<3->(c i).length=36){i:Nat}(hi:i<3){x:List AV}(hx:x.length=36):
 (c3 c).take (i*36)++x++(c3 c).drop (i*36+36)=c3 (fun j=>if j=i then x else c j):=by
 have h0:=h 0 A1;have h1:=h 1 A1;have h2:=h 2 A1
 match i,hi with
 |0,_=>simp[c3,h0]
 |1,_=>simp[c3,Fq,h0,h1]
 |2,_=>simp[c3,Fq,Ia,h0,h1,h2,Bb (show(c 0).length<=72 by omega),Bo (show(c 0).length<=108 by omega),Bo (show(c 1).length<=72 by omega)]
def LG(l:List aD.V)(S:List (aD.V×Int))(L:aD.V×Int->List Nat)(i:Nat):Option Rat:=Nl (sR l i (NK S L)) (lO (some 4) (NW l S L))
theorem VC{tag:Nat}(ht:Nat.blt tag 2=true){l:List aD.V}{M:Nat}(hl:∀v∈l,bL M v)(hM:M<=2^18)(hlen:l.length<=64){S:List (aD.V×Int)}{L:aD.V×Int->List Nat}(hS:qZ l S L)(cG:S≠[])(asc:MM (gP l) l.length)(H:aA):
 Sg 65 [.agg [.bC tag 3 (bK l)]] H (.ret (.agg (c3 fun i=>LD (LG l S L i)))) H:=by
 refine Sp bEg Zao (by simp only[sf];exact iI fun i _=>nO _) ?_ H;unfold W65;dsimp only;simp only[Xb];have o4:=tJ (z:=4) A1 A1;have l4:=cJ 4;have lo:∀x,(cO x).length=18:=fun x=>mC x;have lq:=qS;have hvo:dS (cO (NW l S L)) (NW l S L):=dS.CM _ _;have v6:=YI ht hl hM hlen hS cG asc;have m4:=tI (.enc (z:=4) A1) hvo;have if4:dS (cO (lO (some 4) (NW l S L))) (lO (some 4) (NW l S L)):=dS.mul;have hmo:∀i,dS (cO (sR l i (NK S L))) (sR l i (NK S L)):=fun i=>dS.CM _ _;have hmk:=fun i=>CC (hmo i) if4;have bHk:∀i,Nl (sR l i (NK S L)) (lO (some 4) (NW l S L))=LG l S L i:=fun i=>rfl;refine bX ?_;refine Tz ?_;refine gG ?_;simp only[↓zP,zJ,seval,vF];refine bY ?_;generalize hX:aA.alloc _ (.cells (c3 fun _=>cI 0) false)=HA;have a0:HA.get 0=some (.cells [.bC tag 3 (bK l)] false):=by subst hX;simp only[zI,seval]
 have a1:HA.get 1=some (.cells Qd false):=by subst hX;simp only[zI,seval]
 have a2:HA.get 2=some (.cells (c3 fun i=>cO (sR l i [])) false):=by subst hX;simp only[zI,seval];rfl
 have an:HA.next=3:=by subst hX;rfl
 have aF:bM HA:=by subst hX;exact(((bM.nil _).alloc _).alloc _).alloc _
 clear hX;refine cY fun f hf=>?_;have f1:f 1=.ref 0 0:=by subst hf;simp only[zB,seval]
 have f2:f 2=.ref 1 0:=by subst hf;simp only[zB,seval]
 have f3:f 3=.ref 2 0:=by subst hf;simp only[zB,seval]
 clear hf;obtain⟨_,H9,⟨rfl,hI,AF,hf⟩,hS9⟩:=XM ht hl hM hlen hS cG asc (IC l 2) (fun T H H' ho ⟨h1,h2⟩=>⟨Bj h1 ho.le,Wi ho h2 h1⟩) (aAb hl hM 2) (H0:=HA) A0 ⟨by omega,a2⟩ aF;have b0:=(AF.2 0 A0 A0).trans a0;have b1:=(AF.2 1 A0 A0).trans a1;have b2:H9.get 2=some (.cells (c3 fun i=>cO (sR l i (NK S L))) false):=hI.2;have bn:3<=H9.next:=by have :=AF.1;omega
 clear AF hI a1 a2 aF;refine aT fun K hK=>?_;simp only[↓zP,zJ,seval,f1,f3,a0];refine bO (hS9) ?_;refine Tx ?_;apply hK;clear hK K an;refine bX ?_;refine gZ 1 A1 hf.at1 fun H3 n3 e3=>?_;simp only[↓zP,seval,zI];refine dM (o4 _) ?_;simp only[↓zP,zJ,seval,zD,f1,e3,b0];refine dM (v6 _) ?_;simp only[seval];refine dM (m4 _) ?_;simp only[↓zP,zJ,seval,zD,lo,oL NX];refine bY ?_;generalize hX:(H3.set H9.next _).set H9.next _=HB
 replace b1:HB.get 1=some (.cells Qd false):=by subst hX;rw[aA.aC,if_neg A0,aA.aC,if_neg A0,e3];exact b1
 replace b2:HB.get 2=some (.cells (c3 fun i=>cO (sR l i (NK S L))) false):=by subst hX;rw[aA.aC,if_neg A0,aA.aC,if_neg A0,e3];exact b2
 have b4:HB.get H9.next=some (.cells (cO (lO (some 4) (NW l S L))) false):=by subst hX;rw[aA.aC,if_pos rfl]
 clear hX e3 n3 hf hS9 b0 a0 HA H3;generalize H9.next=r4 at *;refine cY fun f' hf=>?_
 replace f2:f' 2=.ref 1 0:=by subst hf;simp only[zB,seval];exact f2
 replace f3:f' 3=.ref 2 0:=by subst hf;simp only[zB,seval];exact f3
 have f4:f' 4=.ref r4 0:=by subst hf;simp only[zB,seval]
 clear hf f1 f;refine aT fun K hK=>?_;refine bX ?_;refine Tz ?_;refine bY ?_;refine fC [] (fun k _ H'=>H'.get 1=some (.cells (c3 fun j=>if j<k then LD (LG l S L j) else NY) false)/\H'.get 2=some (.cells (c3 fun i=>cO (sR l i (NK S L))) false)/\H'.get r4=some (.cells (cO (lO (some 4) (NW l S L))) false)) 3 A1 rfl A1 ?_ ?_ ?_ ?_
 . exact zq
 . refine⟨?_,b2,b4⟩;simp only[Ar,Ca];exact b1
 . rintro k f HD kR hk e1 ⟨g1,g2,g4⟩;have k2:f 2=.ref 1 0:=by rw[hk 2 rfl];simp only[zB,seval];exact f2
   have k3:f 3=.ref 2 0:=ZaX;have k4:f 4=.ref r4 0:=by rw[hk 4 rfl];simp only[zB,seval];exact f4
   have vz:∀j,j<3->(if j<k then LD (LG l S L j) else NY).length=36:=fun j _=>by split<;>first|exact lq _|rfl
   have hm3:∀j,j<3->(cO (sR l j (NK S L))).length=18:=fun j _=>lo _;have hck:=pG hm3 kR;have mk:=hmk k;rw[bHk] at mk;refine aP ?_;refine bX ?_;simp only[↓zP,zG,seval,e1];refine bY ?_;refine Dz ?_;simp only[↓zP,zJ,seval,zD,k3,k4,aG,kR,g2,g4,fI hm3,hck,lo,oL (lo _),show k*18+18<=54 by omega];refine dM (mk _) ?_;simp only[↓zP,zJ,seval,zD,k2,aG,kR,g1,lq,Lz vz,show k*36+36<=108 by omega];rw[aWz vz kR (lq _)];refine⟨Ao (fun l=>eY.cells l false) (rA fun j _=>?_),g2,by rw[if_neg A0];exact g4⟩;by_cases h:j=k
   . subst h;rw[if_pos rfl,if_pos A0]
   rw[if_neg h];by_cases h2:j<k
   . rw[if_pos h2,if_pos A0]
   rw[if_neg h2,if_neg A0]
 rintro f HD hk ⟨g1,g2,g4⟩;have k2:f 2=.ref 1 0:=by rw[hk 2 rfl];simp only[zB,seval];exact f2
 have e:(c3 fun j=>if j<3 then LD (LG l S L j) else NY)=c3 fun i=>LD (LG l S L i):=rA fun j hj=>if_pos hj;rw[e] at g1;have vz:∀j,j<3->(LD (LG l S L j)).length=36:=fun j _=>lq _;have ll:=oL (Lz vz);refine Tx ?_;apply hK;clear hK K;simp only[↓zP,zJ,seval,k2,g1,ll];refine⟨rfl,_,by simp only[↓zP,zR,seval,k2,ll];rfl,?_⟩;rfl
theorem TG{l:List aD.V}{S:List (aD.V×Int)}{L:aD.V×Int->List Nat}:vf (c3 fun i=>LD (LG l S L i)) (LG l S L):=⟨_,rfl,fun i _=>wD.mk (dS.CM _ _) dS.mul⟩
def wz(q:aD.V×Int)(x:Nat->Option Rat):Option Rat:=sQ (fun i=>some (q.1.at i:Rat)) x 3
def Qs(x:Nat->Option Rat):List (aD.V×Int)->Int->Int
 |[],s=>s
 |q::S,s=>match wz q x with
  |none=> -1
  |some y=>Qs x S (min s (AR (some (q.2:Rat)) (some y)))
theorem VV(x:Nat->Option Rat):∀(S:List (aD.V×Int)) (s:Int),Qs x S s=1->s=1\/1<=s->∀q∈S,∃y,wz q x=some y/\AR (some (q.2:Rat)) (some y)=1
 |[],_,_,_=>fun q hq=>by cases hq
 |q::S,s,h,hs=>fun q' Ox=>by
  have hle:∀(S:List (aD.V×Int)) (s:Int),Qs x S s<=max s (-1):=by
   intro S
   induction S with
   |nil=>intro s;simp only[Qs];omega
   |cons q S ih=>
    intro s;simp only[Qs];split
    . omega
    rename_i y _;have :=ih (min s (AR (some (q.2:Rat)) (some y)));omega
  simp only[Qs] at h;split at h
  . cases h
  rename_i y hy;have h1:=hle S (min s (AR (some (q.2:Rat)) (some y)));rw[h] at h1;have h2:AR (some (q.2:Rat)) (some y)<=1:=(FM _ _).2;have h3:AR (some (q.2:Rat)) (some y)=1:=by omega
  rcases Am.1 Ox with rfl|Ox
  . exact⟨y,hy,h3⟩
  exact VV x S _ h A0 q' Ox
theorem MO{tag:Nat}(ht:Nat.blt tag 2=true){l:List aD.V}{M:Nat}(hl:∀v∈l,bL M v)(hM:M<=2^18)(hlen:l.length<=64){S:List (aD.V×Int)}{L:aD.V×Int->List Nat}(hS:qZ l S L)(cG:S≠[]){v:List AV}{x:Nat->Option Rat}(hv:vf v x):
 ∃r:Int,(r=1->∀q∈S,∃y,wz q x=some y/\AR (some (q.2:Rat)) (some y)=1)/\∀H,Sg 100 [.agg [.bC tag 3 (bK l)],.agg v] H (.ret (.int .i64 r)) H:=by
 obtain⟨bad,Yx⟩:=aDv hv;have lv:=hv.len
 have Xg:S.length<=2^20:=by have h1:=sX (N:=l.length) (p:=fun i=>l.getD i V0) (AH hS.fl) (fun q hq=>(hS.fl.mem q).1 hq);have h2:l.length*(l.length*(l.length*2))<=64*(64*(64*2)):=Ba hlen (Ba hlen (Ba hlen (Ag _)));omega
 have rY:jH 4 (S.map jG)=.bC 0 4 (S.map jG):=if_neg (by simpa using cG);have DY:=Ly ht hl hM hlen hS.fl;rw[rY] at DY;refine⟨if bad then -1 else Qs x S 1,fun h=>?_,fun H=>?_⟩
 . cases bad
   . exact VV x S 1 h (.inl rfl)
   cases h
 refine So aZr (by simp only[sf,cF ht,hv.free]) ?_ H;unfold aOl;dsimp only;refine bX ?_;refine Tz ?_;refine bY ?_;generalize hX:((aA.mk 0 .nil).alloc _).alloc _=HA;have g0:HA.get 0=some (.cells [.bC tag 3 (bK l)] false):=by subst hX;simp only[zI,seval]
 have g1:HA.get 1=some (.cells v false):=by subst hX;simp only[zI,seval]
 have gn:2<=HA.next:=by subst hX;simp only[zI,seval]
 clear hX;refine aT fun K hK=>?_;simp only[↓zP,zJ,seval,g1,oL lv];refine bO (Yx _) ?_;cases bad
 case true=>refine Tz ?_;refine Rx ?_;rfl
 simp only[↓zP,zG,seval];apply hK;clear hK K;refine aT fun K hK=>?_;simp only[↓zP,zG,seval];apply hK;clear hK K;simp only[Au,Ca];refine aT fun K hK=>?_;refine bX ?_;simp only[↓zP,zJ,seval,g0];refine bO (DY _) ?_;simp only[↓zP,zG,seval,Ai];refine bY ?_;refine cC [5] (fun i vs H'=>∃s:Int,vs=[.int .i64 s]/\Qs x S 1=Qs x (S.drop i) s/\-1<=s/\s<=1/\H'.get 1=some (.cells v false)/\2<=H'.next) S.length A0 A1 ?_ ?_ ?_ ?_ ?_
 . exact zq
 . exact zq
 . exact⟨1,by simp only[sm,zB,seval],by rw[Ej],by omega,by omega,g1,gn⟩
 . rintro i f H1 hi hk e1 ⟨s,nQ,hs,s1,s2,g1,gn⟩;simp only[zM] at nQ;have hg:(S.map jG).getD i []=jG S[i]:=fB hi;have fo:=Ah hi;have hF:=(hS.fl.mem _).1 fo;have hq:=oF hl hF;rw[Ef hi] at hs
   obtain⟨k,hk0,hkd⟩:∃k,k<l.length/\S[i].2=dot S[i].1 (l.getD k V0):=by obtain⟨a,_,_,ha,_,_,_,_,hd⟩:=hF.Uh;exact⟨a,ha,hd⟩
   have hnk:bL M (l.getD k V0):=by have :l.getD k V0=l[k]:=(by simp[List.getD,hk0]);rw[this];exact hl _ (Ah hk0)
   have RF:=mH hq hnk;rw[<-hkd] at RF;generalize S[i]=q at *;have hMM:(M+M)*(M+M)<=2^19*2^19:=Ba A0 A0;have aTm:2*((M+M)*(M+M))*M<=2^39*2^18:=Ba A0 A0
   have hI:∀j,CU (q.1.at j):=fun j=>by have h1:=hq.1;have h2:=hq.2.1;have h3:=hq.2.2;unfold aD.V.at;split<;>constructor<;>omega
   have p4:(jG q).length=4:=rfl;have p3:(jG q).take 3=cE q.1:=rfl;have p1:(jG q).getD 3 aB=.int .i64 q.2:=rfl;have sd:=aDt hI hv;have od:=Pz (z:=q.2) A0 A0;have k3:f 3=.ref 1 0:=hk 3 rfl;have gg:f 13=.bC 0 4 (S.map jG):=hk 13 rfl;change ∀H,Sg 192 [.agg (cE q.1),.agg v] H (.ret (.agg (LD (wz q x)))) H at sd;have Oz:wD (LD (wz q x)) (wz q x):=wD.sQ _ _ 3;simp only[Qs] at hs;have lsd:=qS (wz q x);refine aP ?_;refine bX ?_;simp only[↓zP,zJ,seval,e1,gg,aG,Ai,hi,hg,oL p4];refine bY ?_;generalize hX:(H1.alloc _).set H1.next _=H4;have n1:¬(1=H1.next):=A0;have u1:H4.get 1=some (.cells v false):=(by subst hX;rw[aA.aC,if_neg n1,aA.aI,if_neg n1];exact g1);have u2:H4.get H1.next=some (.cells (jG q) false):=Zag;have un:H4.next=H1.next+1:=(by subst hX;simp only[aA.bA,aA.bH]);clear hX;generalize H1.next=r1 at *;refine bX ?_;simp only[↓zP,zJ,seval,k3,u1,u2,p4,p3,oL lv];refine bO (sd _) ?_;simp only[↓zP,zJ,seval,un,lsd];refine bY ?_;generalize hX:aA.set _ (r1+1) _=H5;have w1:H5.get 1=some (.cells v false):=(by subst hX;rw[aA.aC,if_neg A0,aA.aI,if_neg A0];exact u1);have w2:H5.get r1=some (.cells (jG q) false):=(by subst hX;rw[aA.aC,if_neg A0,aA.aI,if_neg A0];exact u2);have w3:H5.get (r1+1)=some (.cells (LD (wz q x)) false):=Zag;have wn:2<=H5.next:=Zax;clear hX u1 u2 un H4;refine cY fun f' hf=>?_;have m5:=Ks hf nQ;have m7:f' 7=.ref r1 0:=ZaN;have m8:f' 8=.ref (r1+1) 0:=ZaN;clear hf;refine aT fun K2 dL=>?_
   cases hsq:wz q x with
   |none=>rw[hsq] at w3 hs lsd;have fl:(LD none).getD 0 aB=.bool true:=rfl;simp only[↓zP,zJ,seval,m8,w3,lsd,fl];refine Rx ?_;rw[hs];rfl
   |some y=>rw[hsq] at w3 hs lsd Oz;have fl:(LD (some y)).getD 0 aB=.bool false:=rfl;simp only[↓zP,zJ,seval,m8,w3,lsd,fl];apply dL;clear dL K2;have cm:=aKw (wD.int (z:=q.2) A0 A0) Oz;obtain⟨cr1,cr2⟩:=FM ((q.2:Rat).num*y.den) (y.num*(q.2:Rat).den);change -1<=AR (some (q.2:Rat)) (some y) at cr1;change AR (some (q.2:Rat)) (some y)<=1 at cr2;refine Dz ?_;simp only[↓zP,zJ,seval,zD,m5,m7,w2,p4,p1];refine dM (od _) ?_;simp only[↓zP,zJ,seval,zD,m8,w3,lsd,oL lsd];refine dM (cm _) ?_;simp only[↓zP,zJ,seval,zD];have em:(if AR (some (q.2:Rat)) (some y)<s then AR (some (q.2:Rat)) (some y) else s)=min s (AR (some (q.2:Rat)) (some y)):=ZaC;rw[em];exact⟨_,rfl,hs,by omega,by omega,w1,wn⟩
 rintro f H1 hk ⟨s,nQ,hs,s1,s2,g1,gn⟩;simp only[zM] at nQ;rw[Ja] at hs;refine Tx ?_;apply hK;clear hK K;simp only[↓zP,zG,seval,nQ];refine Rx ?_;rw[hs];rfl
def InQ(S:List (aD.V×Int))(x:Nat->Option Rat):Prop:=∀q∈S,∃y,wz q x=some y/\AR (some (q.2:Rat)) (some y)=1
def ofV(v:aD.V):Nat->Option Rat:=fun i=>some ((v.at i:Int):Rat)
theorem ph{ta tb:Nat}(ZK:Nat.blt ta 2=true)(Xp:Nat.blt tb 2=true){la lb:List aD.V}{M:Nat}(ha:∀v∈la,bL M v)(hb:∀v∈lb,bL M v)(hM:M<=2^18)(wa:la.length<=64)(o7:lb.length<=64)
 {Sa Sb:List (aD.V×Int)} {La Lb:aD.V×Int->List Nat} (hSa:qZ la Sa La) (hSb:qZ lb Sb Lb) (hna:Sa≠[]) (hnb:Sb≠[]) (asc:MM (gP la) la.length):
 ∃r:Bool,(r=true->(∃k,k<la.length/\InQ Sb (ofV (gP la k)))\/InQ Sb (LG la Sa La))/\∀H,Sg 33 [.agg [.bC ta 3 (bK la)],.agg [.bC tb 3 (bK lb)]] H (.ret (.bool r)) H:=by
 have vn:∀k,k<la.length->bL M (gP la k):=fun k hk=>by
  have :gP la k=la[k]:=by simp[gP,List.getD,hk]
  rw[this];exact ha _ (Ah hk)
 have vI:∀k,k<la.length->∀i,CU ((gP la k).at i):=fun k hk i=>by have :=Nn (vn k hk) i;constructor<;>omega
 have vg:∀k,k<la.length->(bK la).getD k []=cE (gP la k):=fun k hk=>by rw[cH hk];simp[gP,List.getD,hk]
 have vW:∀k,k<la.length->vf (c3 fun i=>cQ ((gP la k).at i)) (ofV (gP la k)):=fun k hk=>⟨_,rfl,fun i _=>wD.int (vI k hk i).1 (by have :=(vI k hk i).2;omega)⟩
 have hc:∀k,∃r:Int,k<la.length->(r=1->InQ Sb (ofV (gP la k)))/\∀H,Sg 100 [.agg [.bC tb 3 (bK lb)],.agg (c3 fun i=>cQ ((gP la k).at i))] H (.ret (.int .i64 r)) H:=fun k=>by
  by_cases hk:k<la.length
  . obtain⟨r,h1,h2⟩:=MO Xp hb hM o7 hSb hnb (vW k hk);exact⟨r,fun _=>⟨h1,h2⟩⟩
  exact⟨0,fun h=>absurd h hk⟩
 obtain⟨c,hc⟩:=Classical.axiomOfChoice hc;obtain⟨cc,bHa,bHb⟩:=MO Xp hb hM o7 hSb hnb (TG (l:=la) (S:=Sa) (L:=La));have ce:=VC ZK ha hM wa hSa hna asc;have lq:(c3 fun i=>LD (LG la Sa La i)).length=108:=Lz fun i _=>qS _;refine⟨(List.range la.length).any (fun k=>c k==1)||(cc==1),fun h=>?_,fun H=>?_⟩
 . rw[Dq,Cv] at h
   rcases h with ⟨k,hk,h⟩|h
   . have hk:=Az.1 hk;exact .inl ⟨k,hk,(hc k hk).1 Zay⟩
   exact .inr (bHa Zay)
 refine So bJv (by simp only[sf,cF ZK,cF Xp]) ?_ H;unfold W33;dsimp only;refine bX ?_;refine Tz ?_;refine bY ?_;generalize hX:((aA.mk 0 .nil).alloc _).alloc _=HA;have a0:HA.get 0=some (.cells [.bC ta 3 (bK la)] false):=by subst hX;simp only[zI,seval]
 have a1:HA.get 1=some (.cells [.bC tb 3 (bK lb)] false):=by subst hX;simp only[zI,seval]
 have an:2<=HA.next:=by subst hX;simp only[zI,seval]
 clear hX;refine cY fun f hf=>?_;have f2:f 2=.ref 0 0:=by subst hf;simp only[zB,seval]
 have f3:f 3=.ref 1 0:=by subst hf;simp only[zB,seval,aA.bH]
 clear hf;refine aT fun K hK=>?_;refine bX ?_;simp only[↓zP,zJ,seval,f2,a0,aR];refine bY ?_;refine cC [] (fun i _ H'=>(∀j,j<i->(c j==1)=false)/\H'.get 0=some (.cells [.bC ta 3 (bK la)] false)/\H'.get 1=some (.cells [.bC tb 3 (bK lb)] false)/\2<=H'.next) la.length A0 A1 ?_ ?_ ?_ ?_ ?_
 . exact zq
 . exact zq
 . exact⟨fun j hj=>absurd hj (Ar _),a0,a1,an⟩
 . rintro i f' H1 hi hk e1 ⟨BJ,g0,g1,gn⟩;have k3:f' 3=.ref 1 0:=by rw[hk 3 rfl];simp only[zB,seval];exact f3
   have k8:f' 8=.bC ta 3 (bK la):=hk 8 rfl;obtain⟨_,ct⟩:=hc i hi;have ov:=jj (vI i hi);have l3:=oL (aM (gP la i));refine aP ?_;refine bX ?_;simp only[↓zP,zJ,seval,e1,k8,aG,aR,hi,vg i hi,l3];refine bY ?_;generalize hX:(H1.alloc _).set H1.next _=H4;have u0:H4.get 0=some (.cells [.bC ta 3 (bK la)] false):=(by subst hX;rw[aA.aC,if_neg A0,aA.aI,if_neg A0];exact g0);have u1:H4.get 1=some (.cells [.bC tb 3 (bK lb)] false):=(by subst hX;rw[aA.aC,if_neg A0,aA.aI,if_neg A0];exact g1);have u6:H4.get H1.next=some (.cells (cE (gP la i)) false):=Zag;have un:2<=H4.next:=Zax;clear hX;generalize H1.next=r6 at *;refine bX ?_;refine Dz ?_;simp only[↓zP,zJ,seval,zD,k3,u1,u6,l3];refine dM (ov _) ?_;simp only[seval];refine dM (ct _) ?_;simp only[↓zP,zJ,seval,zD];refine bY ?_;by_cases Xi:c i=1
   . have e2:(c i==1)=true:=(by rw[Xi];rfl);have hz:(List.range la.length).any (fun k=>c k==1)=true:=Cv.2 ⟨i,Az.2 hi,e2⟩;simp only[↓zP,zG,seval,e2];refine Rx ?_;rw[hz,Bool.true_or];rfl
   have e2:(c i==1)=false:=(by simpa using Xi);simp only[↓zP,zG,seval,e2];refine⟨fun j hj=>?_,u0,u1,un⟩
   rcases Nat.lt_or_eq_of_le (Nat.le_of_lt_succ hj) with h|h
   . exact BJ j h
   rw[h];exact e2
 rintro f' H1 hk ⟨BJ,g0,g1,gn⟩;have k2:f' 2=.ref 0 0:=by rw[hk 2 rfl];simp only[zB,seval];exact f2
 have k3:f' 3=.ref 1 0:=by rw[hk 3 rfl];simp only[zB,seval];exact f3
 have hz:(List.range la.length).any (fun k=>c k==1)=false:=by rw[Gu];intro j hj;rw[BJ j (Az.1 hj)];decide
 refine Tx ?_;apply hK;clear hK K;refine bX ?_;refine Dz ?_;simp only[↓zP,zJ,seval,zD,k2,k3,g0,g1];refine dM (ce _) ?_;simp only[seval];refine dM (bHb _) ?_;simp only[↓zP,zJ,seval,zD];refine bY ?_;refine Tx ?_;refine Rx ?_;rw[hz,Bool.false_or];rfl
end Go.Proofs.YtogfcjbgeebfkaaGreatDoor
namespace Go.Proofs.YtogfcjbgeebfkaaGreatDoor
open Go Go.Av Go.aD Go.lP
attribute [local congr] aY aS aV aQ bD aX aW aH bE
attribute [local irreducible] FC bT eX
def sG(n:aD.V)(m:Int)(l:List aD.V):Int:=l.foldl (fun m v=>if aD.dot n v<m then aD.dot n v else m) m
def sF(n:aD.V)(m:Int)(l:List aD.V):Int:=l.foldl (fun m v=>if aD.dot n v>m then aD.dot n v else m) m
theorem cd(z:Int):cM (cI z)=true:=cK z
theorem jm{tag:Nat}(ht:Nat.blt tag 2=true){l:List aD.V}{M B:Nat}(hl:∀v∈l,bL M v)(hlen:l.length<2^30)(hM:M<=2^18){n:aD.V}(hn:bL B n)(hB:B<=2^62){x0:aD.V}{r:List aD.V}(hx:l=x0::r)(H:aA):
 Sg 94 [.agg [.bC tag 3 (bK l)],.agg (cE n)] H (.ret (.jZ [.agg (cI (sG n (aD.dot n x0) l)),.agg (cI (sF n (aD.dot n x0) l))])) H:=by
 have hI:∀{A:Nat} {v:aD.V},bL A v->A<=2^62->∀i,CU (v.at i):=fun {A v} h hA i=>by have :=bL.c h i;unfold CU;omega
 have hBM:B*M<=2^62*2^18:=Ba hB hM
 have aBg:∀v∈l,∀H,Sg 185 [.agg (cE n),.agg (cE v)] H (.ret (.agg (cI (aD.dot n v)))) H:=fun v hv H=>by
  have :=xl (hI hn hB) (hI (hl v hv) A0) H
  rwa [Vg hn (hl v hv) (by
   have :(2:Nat)^62*2^18*3<2^240:=by decide
   omega)] at this
 refine Sp bKt (by simp only[sf,cF ht,bV]) (by simp only[AV.free,cM,cd];rfl) ?_ H;unfold W94;dsimp only;have Xt:0<l.length:=by rw[hx];simp
 have aUn:l[0]=x0:=by subst hx;rfl
 have g0:=cH Xt;have Ou:=aBg _ (Ah Xt);have a0:asNat (.int .i64 0)=some 0:=rfl;have dA:∀z,(cI z).length=18:=fun z=>by simp[cI,bW,bP]
 refine bX ?_;refine Ty ?_;refine gG ?_;refine Dz ?_;simp only[↓zP,zJ,seval,zD,a0,aR,Xt,g0,oL (aM l[0]),oL (aM n)];have nY:(AV.bool false::AV.bool false::wC zs).length=18:=by simp[bW];rfl
 refine dM (Ou _) ?_;simp only[↓zP,zJ,seval,zD,a0,aR,Xt,g0,oL (aM l[0]),oL (aM n)];refine dM (Ou _) ?_;rw[aUn];generalize hd:aD.dot n x0=d0 at *;simp only[↓zP,zJ,seval,zD,dA,nY,oL nY];refine bY ?_;refine aT fun K hK=>?_;refine bX ?_;refine Ty ?_;refine bY ?_;refine cC [] (fun i _ H'=>H'.get 1=some (.cells (cE n) false)/\H'.get 2=some (.cells (cI (sG n d0 (l.take i))) false)/\H'.get 3=some (.cells (cI (sF n d0 (l.take i))) false)/\4<=H'.next/\(sG n d0 (l.take i)).natAbs<=3*(B*M)/\(sF n d0 (l.take i)).natAbs<=3*(B*M)) l.length A0 A1 ?_ ?_ ?_ ?_ ?_
 . exact zq
 . simp only[zB,seval,aR]
 . have RF:=mH hn (hl x0 (by rw[hx];simp));rw[hd] at RF;exact⟨by simp only[zI,seval],by simp only[zI,seval];rfl,by simp only[zI,seval];rfl,by simp only[zI,seval],RF,RF⟩
 . rintro i f H1 hi hk e1 ⟨m1,m2,m3,hn4,b1,b2⟩;have hg:=cH hi;have vP:=Ah hi;have hdi:=aBg _ vP;have RF:=mH hn (hl _ vP)
   have Qj:sG n d0 (l.take (i+1))=if aD.dot n l[i]<sG n d0 (l.take i) then aD.dot n l[i] else sG n d0 (l.take i):=by unfold sG;rw[Ax,Iv];simp[hi]
   have o5:sF n d0 (l.take (i+1))=if aD.dot n l[i]>sF n d0 (l.take i) then aD.dot n l[i] else sF n d0 (l.take i):=by unfold sF;rw[Ax,Iv];simp[hi]
   rw[Qj,o5];generalize sG n d0 (l.take i)=lo at *;generalize sF n d0 (l.take i)=pB at *;generalize l[i]=x at *;generalize aD.dot n x=d at *;have n1:¬(1=H1.next):=A0;have n2:¬(2=H1.next):=A0;have n3:¬(3=H1.next):=A0;refine aP ?_;refine bX ?_;simp only[↓zP,zJ,seval,e1,hk 22 rfl,aG,aR,hi,hg,oL (aM x)];refine gG ?_;simp only[↓zP,zJ,seval,hk 3 rfl,n1,m1,oL (aM x),oL (aM n)];refine bO (hdi _) ?_;simp only[↓zP,zJ,seval,dA,nY,oL nY];refine bY ?_;generalize hX:(((H1.alloc _).set H1.next _).alloc _).set (H1.next+1) _=H4;have y1:H4.get 1=some (.cells (cE n) false):=(by subst hX;rw[aA.aC,if_neg A0,aA.aI,if_neg Zaf,aA.aC,if_neg A0,aA.aI,if_neg A0];exact m1);have y2:H4.get 2=some (.cells (cI lo) false):=(by subst hX;rw[aA.aC,if_neg A0,aA.aI,if_neg Zaf,aA.aC,if_neg A0,aA.aI,if_neg A0];exact m2);have y3:H4.get 3=some (.cells (cI pB) false):=(by subst hX;rw[aA.aC,if_neg A0,aA.aI,if_neg Zaf,aA.aC,if_neg A0,aA.aI,if_neg A0];exact m3);have y8:H4.get (H1.next+1)=some (.cells (cI d) false):=Zag;have yn:4<=H4.next:=Zax;clear hX;generalize hr8:H1.next+1=r8 at *
   have w16:3*(B*M)<W^16:=by have :3*(2^62*2^18)<W^16:=A1;omega
   have kS:dS (cI d) (some d):=.enc A0;have ilo:dS (cI lo) (some lo):=.enc A0;have ihi:dS (cI pB) (some pB):=.enc A0;have q2:¬(2=r8):=A0;have q3:¬(3=r8):=A0;refine aT fun K2 dL=>?_
   have yA:∀y:Int,(decide (kW (some d) (some y)<0)=decide (d<y))/\(decide (kW (some d) (some y)>0)=decide (d>y)):=fun y=>by constructor<;>(rw[Bk];simp only[kW];split<;>(try split)<;>omega)
   have key:∀(f':cW) (H':aA) (lo2:Int),f' 8=.ref r8 0->f' 5=.ref 3 0->H'.get r8=some (.cells (cI d) false)->H'.get 1=some (.cells (cE n) false)->H'.get 2=some (.cells (cI lo2) false)->H'.get 3=some (.cells (cI pB) false)->4<=H'.next->lo2=(if d<lo then d else lo)->K2 f' [] H':=by
    intro f' H' lo2 v8 v5 p8 p1 p2 p3 pn plo;apply dL;clear dL K2;simp only[↓zP,zJ,seval,v8,v5,p8,p3,dA,oL (dA d),oL (dA pB)];refine bO (FB kS ihi _) ?_;have wV:(if d<lo then d else lo).natAbs<=3*(B*M):=ZaC;by_cases c2:d>pB
    . have d2:decide (kW (some d) (some pB)>0)=true:=(by rw[(yA pB).2];exact Aj c2);simp only[↓zP,zJ,seval,d2,v8,v5,p8,p3,dA,oL (dA d),oL (dA pB)];rw[if_pos c2,<-plo];exact⟨p1,p2,rfl,pn,by rw[plo];exact wV,RF⟩
    have d2:decide (kW (some d) (some pB)>0)=false:=(by rw[(yA pB).2];exact Ad c2);simp only[↓zP,zG,seval,d2];rw[if_neg c2,<-plo];exact⟨p1,p2,p3,pn,by rw[plo];exact wV,b2⟩
   simp only[↓zP,zJ,seval,hk 4 rfl,y8,y2,dA,oL (dA d),oL (dA lo)];refine bO (FB kS ilo _) ?_;by_cases c1:d<lo
   . have d1:decide (kW (some d) (some lo)<0)=true:=(by rw[(yA lo).1];exact Aj c1);simp only[↓zP,zJ,seval,d1,hk 4 rfl,y8,y2,dA,oL (dA d),oL (dA lo)];refine key _ _ d zq (by simp only[zB,seval];exact hk 5 rfl) ?_ ?_ ?_ ?_ ?_ (if_pos c1).symm
     . rw[aA.aC,if_neg A0];exact y8
     . rw[aA.aC,if_neg A0];exact y1
     . rw[aA.aC,if_pos rfl]
     . rw[aA.aC,if_neg A0];exact y3
     rw[aA.bA];exact yn
   have d1:decide (kW (some d) (some lo)<0)=false:=(by rw[(yA lo).1];exact Ad c1);simp only[↓zP,zG,seval,d1];exact key _ _ lo zq (by simp only[zB,seval];exact hk 5 rfl) y8 y1 y2 y3 yn (if_neg c1).symm
 rintro f H1 hk ⟨m1,m2,m3,hn4,b1,b2⟩;rw[Ay] at m2 m3;refine Tx ?_;apply hK;clear hK K;refine bX ?_;refine Dz ?_;simp only[↓zP,zJ,seval,zD,hk 4 rfl,hk 5 rfl,m2,m3,dA,oL (dA (sG n d0 l)),oL (dA (sF n d0 l))];refine bY ?_;refine Tx ?_;refine⟨rfl,_,by simp only[↓zP,zR,seval,hk 4 rfl,hk 5 rfl,dA,oL (dA (sG n d0 l)),oL (dA (sF n d0 l))];rfl,?_⟩;rfl
theorem Qv{ta tb:Nat}(a b:List aD.V)(H:aA):Sg 93 [.agg [.bC ta 3 (bK a)],.agg [.bC tb 3 (bK b)]] H (.ret (.func (.func 181) [] [.ref H.next 0,.ref (H.next+1) 0])) ((H.alloc (.cells [.bC ta 3 (bK a)] false)).alloc (.cells [.bC tb 3 (bK b)] false)):=by refine mA bKs (Al rfl) ?_;unfold W93;dsimp only;refine bX ?_;refine Ty ?_;refine bY ?_;refine Ty ?_;refine Rx ?_;exact⟨rfl,rfl⟩
end Go.Proofs.YtogfcjbgeebfkaaGreatDoor
