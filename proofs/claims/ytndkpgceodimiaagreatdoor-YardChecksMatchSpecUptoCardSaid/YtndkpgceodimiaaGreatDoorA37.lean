/-
  Part of the proof of statement 10
-/
import Derived.Test.YtndkpgceodimiaaGreatDoorA07
import Derived.Test.YtndkpgceodimiaaGreatDoorA19
import Derived.Test.YtndkpgceodimiaaGreatDoorA05
import Derived.Test.YtndkpgceodimiaaGreatDoorA36
import Derived.Test.YtndkpgceodimiaaGreatDoorA25
import Derived.Test.YtndkpgceodimiaaGreatDoorA26
import Derived.Test.YtndkpgceodimiaaGreatDoorA12
import Derived.Test.YtndkpgceodimiaaGreatDoorA14
import Derived.Test.YtndkpgceodimiaaGreatDoorA16
import Derived.Test.YtndkpgceodimiaaGreatDoorA20
import Derived.Test.YtndkpgceodimiaaGreatDoorA22
import Derived.Test.YtndkpgceodimiaaGreatDoorA24
import Derived.Test.YtndkpgceodimiaaGreatDoorA18
set_option maxRecDepth 1000000
set_option maxHeartbeats 16000000
set_option linter.unusedVariables false
namespace Go.Proofs.YtndkpgceodimiaaGreatDoor
open Go Go.Av
def W46:CW Tryz.f46:=⟨_,cL⟩
theorem bFn:Fi 46 W46:=cH Tryz.func46 W46
def W47:CW Tryz.f47:=⟨_,cL⟩
theorem bFo:Fi 47 W47:=cH Tryz.func47 W47
def aNd:CW Tryz.f202:=⟨_,cL⟩
theorem aXt:Fi 202 aNd:=cH Tryz.func202 aNd
def aNj:CW Tryz.f217:=⟨_,cL⟩
theorem aXz:Fi 217 aNj:=cH Tryz.func217 aNj
def aNg:CW Tryz.f205:=⟨_,cL⟩
theorem aXw:Fi 205 aNg:=cH Tryz.func205 aNg
def aKo:CW Tryz.f106:=⟨_,cL⟩
theorem aUz:Fi 106 aKo:=cH Tryz.func106 aKo
def aLt:CW Tryz.f154:=⟨_,cL⟩
theorem aWi:Fi 154 aLt:=cH Tryz.func154 aLt
def aLs:CW Tryz.f153:=⟨_,cL⟩
theorem aWh:Fi 153 aLs:=cH Tryz.func153 aLs
def aLr:CW Tryz.f148:=⟨_,cL⟩
theorem aWf:Fi 148 aLr:=cH Tryz.func148 aLr
def aNf:CW Tryz.f204:=⟨_,cL⟩
theorem aXv:Fi 204 aNf:=cH Tryz.func204 aNf
def aNa:CW Tryz.f199:=⟨_,cL⟩
theorem aXq:Fi 199 aNa:=cH Tryz.func199 aNa
def aLp:CW Tryz.f145:=⟨_,cL⟩
theorem aWd:Fi 145 aLp:=cH Tryz.func145 aLp
def W76:CW Tryz.f76:=⟨_,cL⟩
theorem bGj:Fi 76 W76:=cH Tryz.func76 W76
def aKq:CW Tryz.f108:=⟨_,cL⟩
theorem aVb:Fi 108 aKq:=cH Tryz.func108 aKq
def aKp:CW Tryz.f107:=⟨_,cL⟩
theorem aVa:Fi 107 aKp:=cH Tryz.func107 aKp
def aKm:CW Tryz.f100:=⟨_,cL⟩
theorem aUx:Fi 100 aKm:=cH Tryz.func100 aKm
def W74:CW Tryz.f74:=⟨_,cL⟩
theorem bGi:Fi 74 W74:=cH Tryz.func74 W74
def aNr:CW Tryz.f231:=⟨_,cL⟩
theorem aYh:Fi 231 aNr:=cH Tryz.func231 aNr
def aOs:CW Tryz.f279:=⟨_,cL⟩
theorem aZk:Fi 279 aOs:=cH Tryz.func279 aOs
def W44:CW Tryz.f44:=⟨_,cL⟩
theorem bFm:Fi 44 W44:=cH Tryz.func44 W44
def aLq:CW Tryz.f147:=⟨_,cL⟩
theorem aWe:Fi 147 aLq:=cH Tryz.func147 aLq
def aLl:CW Tryz.f141:=⟨_,cL⟩
theorem aVz:Fi 141 aLl:=cH Tryz.func141 aLl
def aLm:CW Tryz.f142:=⟨_,cL⟩
theorem aWa:Fi 142 aLm:=cH Tryz.func142 aLm
def W73:CW Tryz.f73:=⟨_,cL⟩
theorem bGh:Fi 73 W73:=cH Tryz.func73 W73
def W97:CW Tryz.f97:=⟨_,cL⟩
theorem bGz:Fi 97 W97:=cH Tryz.func97 W97
def W98:CW Tryz.f98:=⟨_,Mq⟩
theorem bHa:Fi 98 W98:=cH Tryz.func98 W98
def aLn:CW Tryz.f143:=⟨_,cL⟩
theorem aWb:Fi 143 aLn:=cH Tryz.func143 aLn
def aMy:CW Tryz.f197:=⟨_,Mq⟩
theorem aXo:Fi 197 aMy:=cH Tryz.func197 aMy
def aOq:CW Tryz.f261:=⟨_,cL⟩
theorem aZi:Fi 261 aOq:=cH Tryz.func261 aOq
def aKn:CW Tryz.f101:=⟨_,cL⟩
theorem aUy:Fi 101 aKn:=cH Tryz.func101 aKn
def aNn:CW Tryz.f222:=⟨_,cL⟩
theorem aYd:Fi 222 aNn:=cH Tryz.func222 aNn
def W21:CW Tryz.f21:=⟨_,cL⟩
theorem bEx:Fi 21 W21:=cH Tryz.func21 W21
def W60:{x // LA Tryz.prog gv true Tryz.f60=some x}:=⟨_,cL⟩
theorem bFy:kP Tryz.prog gv true 60 W60.1:=iZ Tryz.func60 (by kernel_rfl) W60.2
def W62:{x // LA Tryz.prog gv true Tryz.f62=some x}:=⟨_,cL⟩
theorem bGa:kP Tryz.prog gv true 62 W62.1:=iZ Tryz.func62 (by kernel_rfl) W62.2
def W61:{x // LA Tryz.prog gv true Tryz.f61=some x}:=⟨_,cL⟩
theorem bFz:kP Tryz.prog gv true 61 W61.1:=iZ Tryz.func61 (by kernel_rfl) W61.2
def aNb:CW Tryz.f200:=⟨_,cL⟩
theorem aXr:Fi 200 aNb:=cH Tryz.func200 aNb
def aNe:CW Tryz.f203:=⟨_,cL⟩
theorem aXu:Fi 203 aNe:=cH Tryz.func203 aNe
def aNc:CW Tryz.f201:=⟨_,cL⟩
theorem aXs:Fi 201 aNc:=cH Tryz.func201 aNc
def aPe:CW Tryz.f292:=⟨_,Mq⟩
theorem aZx:Fi 292 aPe:=cH Tryz.func292 aPe
def aOo:CW Tryz.f259:=⟨_,cL⟩
theorem aZf:Fi 259 aOo:=cH Tryz.func259 aOo
def aOp:CW Tryz.f260:=⟨_,cL⟩
theorem aZh:Fi 260 aOp:=cH Tryz.func260 aOp
def aOn:CW Tryz.f258:=⟨_,cL⟩
theorem aZe:Fi 258 aOn:=cH Tryz.func258 aOn
def aLv:CW Tryz.f156:=⟨_,cL⟩
theorem aWk:Fi 156 aLv:=cH Tryz.func156 aLv
def aMz:CW Tryz.f198:=⟨_,cL⟩
theorem aXp:Fi 198 aMz:=cH Tryz.func198 aMz
def aNk:CW Tryz.f219:=⟨_,cL⟩
theorem aYa:Fi 219 aNk:=cH Tryz.func219 aNk
def aNl:CW Tryz.f220:=⟨_,cL⟩
theorem aYb:Fi 220 aNl:=cH Tryz.func220 aNl
def aNm:CW Tryz.f221:=⟨_,cL⟩
theorem aYc:Fi 221 aNm:=cH Tryz.func221 aNm
def aOl:CW Tryz.f256:=⟨_,cL⟩
theorem aZc:Fi 256 aOl:=cH Tryz.func256 aOl
def aOr:CW Tryz.f268:=⟨_,cL⟩
theorem aZj:Fi 268 aOr:=cH Tryz.func268 aOr
def aOk:CW Tryz.f252:=⟨_,cL⟩
theorem aZb:Fi 252 aOk:=cH Tryz.func252 aOk
def W77:CW Tryz.f77:=⟨_,cL⟩
theorem bGk:Fi 77 W77:=cH Tryz.func77 W77
def W22:CW Tryz.f22:=⟨_,cL⟩
theorem bEy:Fi 22 W22:=cH Tryz.func22 W22
def W24:CW Tryz.f24:=⟨_,cL⟩
theorem bEz:Fi 24 W24:=cH Tryz.func24 W24
def W40:CW Tryz.f40:=⟨_,cL⟩
theorem bFj:Fi 40 W40:=cH Tryz.func40 W40
def W41:CW Tryz.f41:=⟨_,cL⟩
theorem bFk:Fi 41 W41:=cH Tryz.func41 W41
def W63:CW Tryz.f63:=⟨_,Mq⟩
theorem bGb:Fi 63 W63:=cH Tryz.func63 W63
def W65:CW Tryz.f65:=⟨_,Mq⟩
theorem bGd:Fi 65 W65:=cH Tryz.func65 W65
def W67:CW Tryz.f67:=⟨_,Mq⟩
theorem bGe:Fi 67 W67:=cH Tryz.func67 W67
def W64:CW Tryz.f64:=⟨_,cL⟩
theorem bGc:Fi 64 W64:=cH Tryz.func64 W64
end Go.Proofs.YtndkpgceodimiaaGreatDoor
namespace Go.Proofs.YtndkpgceodimiaaGreatDoor
open Go Go.Av Go.sK
def aQb:AV->Option Nat
 |.int .u32 n=>match Nat.blt n.natAbs W&&decide ((n.natAbs:Int)=n) with
  |true=>some n.natAbs
  |false=>none
 |_=>none
theorem aEf {x:AV} {a:Nat} (h:aQb x=some a):x=.int .u32 (a:Nat)/\a<W:=by
 unfold aQb at h;split at h
 · split at h
   · rename_i n hc;cases h;simp only[Am,Bg] at hc;exact⟨by rw[hc.2],by simpa using hc.1⟩
   cases h
 cases h
def aEe:List AV->Option (List Nat)
 |[]=>some []
 |x::r=>match aQb x,aEe r with
  |some a,some l=>some (a::l)
  |_,_=>none
theorem Zb:∀{v:List AV} {l:List Nat},aEe v=some l->v=wC l/\∀d∈l,d<W
 |[],l,h=>by cases h;exact⟨rfl,fun d hd=>by cases hd⟩
 |x::r,l,h=>by
  simp only[aEe] at h;split at h
  · rename_i a l' ha oU;cases h;obtain⟨h1,h2⟩:=Zb oU;obtain⟨h3,h4⟩:=aEf ha;refine⟨by rw[h1,h3];rfl,fun d hd=>?_⟩
    rcases Ap.1 hd with rfl|hd
    · exact h4
    exact h2 d hd
  cases h
def Nc:List AV->Option (Option Int)
 |.bool b::.bool n::r=>match aEe r with
  |some l=>match Nat.beq l.length 16 with
   |true=>some (QV b n l)
   |false=>none
  |none=>none
 |_=>none
theorem sM {v:List AV} {x:Option Int} (h:Nc v=some x):iU v x:=by
 unfold Nc at h;split at h
 · rename_i b n r;split at h
   · rename_i l hl;split at h
     · rename_i hc;cases h;obtain⟨h1,h2⟩:=Zb hl;exact⟨b,n,l,⟨Bh hc,h2⟩,by rw[h1],rfl⟩
     cases h
   cases h
 cases h
def lk (g:Option Int->AV):List AV->Option AV
 |[.agg a]=>match Nc a with
  |some x=>some (g x)
  |none=>none
 |_=>none
def ll (g:Option Int->Option Int->AV):List AV->Option AV
 |[.agg a,.agg b]=>match Nc a,Nc b with
  |some x,some y=>some (g x y)
  |_,_=>none
 |_=>none
theorem Ms {g:Option Int->AV} {f:FuncId} (hS:∀a x,iU a x->∀H,Sg f [.agg a] H (.ret (g x)) H) {args:List AV} {v:AV} (h:lk g args=some v) (H:aA):Sg f args H (.ret v) H:=by
 unfold lk at h;split at h
 · rename_i a;split at h
   · rename_i x hx;cases h;exact hS a x (sM hx) H
   cases h
 cases h
theorem Mt {g:Option Int->Option Int->AV} {f:FuncId} (hS:∀a b x y,iU a x->iU b y->∀H,Sg f [.agg a,.agg b] H (.ret (g x y)) H) {args:List AV} {v:AV} (h:ll g args=some v) (H:aA):Sg f args H (.ret v) H:=by
 unfold ll at h;split at h
 · rename_i a b;split at h
   · rename_i x y hx hy;cases h;exact hS a b x y (sM hx) (sM hy) H
   cases h
 cases h
def aAd:List AV->Option AV
 |[.int .i64 z]=>match decide (-2^63<=z)&&decide (z<2^63) with
  |true=>some (.agg (cI z))
  |false=>none
 |_=>none
theorem aAe {args:List AV} {v:AV} (h:aAd args=some v) (H:aA):Sg 95 args H (.ret v) H:=by
 unfold aAd at h;split at h
 · rename_i z;split at h
   · rename_i hc;cases h;simp only[Am,Bg] at hc;exact GN hc.1 hc.2 H
   cases h
 cases h
def aSn (f:FuncId) (args:List AV):Option AV:=
 match Nat.beq f 95 with
 |true=>aAd args
 |false=>match Nat.beq f 139 with
 |true=>ll (fun x y=>.agg (cO (NI x y))) args
 |false=>match Nat.beq f 235 with
 |true=>ll (fun x y=>.agg (cO (NI x (QM y)))) args
 |false=>match Nat.beq f 140 with
 |true=>ll (fun x y=>.agg (cO (MW x y))) args
 |false=>match Nat.beq f 189 with
 |true=>lk (fun x=>.agg (cO (QM x))) args
 |false=>match Nat.beq f 193 with
 |true=>lk (fun x=>.agg (cO (aTf x))) args
 |false=>match Nat.beq f 144 with
 |true=>lk (fun x=>.int .i64 (yW x)) args
 |false=>match Nat.beq f 85 with
 |true=>ll (fun x y=>.int .i64 (kS x y)) args
 |false=>match Nat.beq f 173 with
 |true=>lk (fun x=>.jR [.int .i64 (iW x).1,.bool (iW x).2]) args
 |false=>none
theorem aGq {f:FuncId} {args:List AV} {v:AV} (h:aSn f args=some v) (H:aA):Sg f args H (.ret v) H:=by
 unfold aSn at h;split at h
 · rename_i hf;obtain rfl:=Bh hf;exact aAe h H
 split at h
 · rename_i hf;obtain rfl:=Bh hf;exact Mt (fun a b x y ha hb H=>Ww ha hb H) h H
 split at h
 · rename_i hf;obtain rfl:=Bh hf;exact Mt (fun a b x y ha hb H=>s9 ha hb H) h H
 split at h
 · rename_i hf;obtain rfl:=Bh hf;exact Mt (fun a b x y ha hb H=>SU ha hb H) h H
 split at h
 · rename_i hf;obtain rfl:=Bh hf;exact Ms (fun a x ha H=>XC ha H) h H
 split at h
 · rename_i hf;obtain rfl:=Bh hf;exact Ms (fun a x ha H=>aKg ha H) h H
 split at h
 · rename_i hf;obtain rfl:=Bh hf;exact Ms (fun a x ha H=>Mf ha H) h H
 split at h
 · rename_i hf;obtain rfl:=Bh hf;exact Mt (fun a b x y ha hb H=>KD ha hb H) h H
 split at h
 · rename_i hf;obtain rfl:=Bh hf;exact Ms (fun a x ha H=>GP ha H) h H
 cases h
attribute [local congr] aV aO aP aL aX aR aQ aH aY
attribute [local irreducible] FC bY eX
theorem WZ {z:Int} (h:z.natAbs<2^64):bF z.natAbs 1*4294967296+bF z.natAbs 0=z.natAbs:=by
 have hW:W=4294967296:=rfl;have h2:bF z.natAbs 0=z.natAbs%W:=by simp[bF]
 have h3:bF z.natAbs 1=z.natAbs / W:=by unfold bF;rw[Nat.pow_one,hW,Db (by omega)]
 rw[h2,h3,Dk];exact Fj _ _
theorem aBy {a:Nat} (h:a<2^64):sz a<=2:=by
 rcases My 16 a with h0|h0
 · unfold sz;omega
 refine Nat.not_lt.1 fun h3=>h0 ?_;unfold sz at h3;unfold bF;have :W^2<=W^(dv 16 a -1):=Ds (by decide) (by omega);have hW:W^2=2^64:=rfl;rw[Ei (by omega)];rfl
theorem KG {a b:List AV} {x y:Int} (ha:iU a (some x)) (hb:iU b (some y)) (hx:x.natAbs<2^64) (hy:y.natAbs<2^64) (H:aA):
 Sg 137 [.agg a,.agg b] H (.ret (.agg (cI (Int.gcd x y)))) H:=by
 refine Sp aVw (by simp only[sf,ha.free,hb.free]) (by simp only[sf,dC]) ?_ H;unfold aLi;dsimp only;have hg:=AL ha hb;have s1:=JP x.natAbs;have s2:=JP y.natAbs;have la:=ha.len;have lb:=hb.len;obtain⟨rfl,hz⟩:=ha.some;obtain⟨rfl,hz'⟩:=hb.some;refine bQ ?_;simp only[↓zP,zJ,Nat.reduceLT,Nat.reduceEqDiff,Nat.reduceAdd];refine fM ?_;simp only[↓zP,zJ,Nat.reduceLT,Nat.reduceEqDiff,Nat.reduceAdd,oL la,oL lb];refine bW (hg _) ?_;simp only[↓zP,zJ,Nat.reduceLT,Bd,Df];refine bR ?_;have xI:(AV.bool false::AV.bool false::wC zs).length=18:=by simp[dA];rfl
 have gM:∀z,(cI z).length=18:=fun z=>dH z;generalize hX:(((aA.mk 0 .nil).alloc _).alloc _).alloc _=HA;have g0:HA.get 0=some (.cells (cI x) false):=by subst hX;simp only[zI,Nat.reduceAdd,Nat.reduceEqDiff]
 have g1:HA.get 1=some (.cells (cI y) false):=by subst hX;simp only[zI,Nat.reduceAdd,Nat.reduceEqDiff]
 have g2:HA.get 2=some (.cells (AV.bool false::AV.bool false::wC zs) false):=by subst hX;simp only[zI,Nat.reduceAdd,Nat.reduceEqDiff]
 clear hX;refine dT fun f hf=>?_;have f2:f 2=.ref 0 0:=by subst hf;simp only[zB,Nat.reduceEqDiff]
 have f3:f 3=.ref 1 0:=by subst hf;simp only[zB,Nat.reduceEqDiff]
 have f4:f 4=.ref 2 0:=by subst hf;simp only[zB,Nat.reduceEqDiff]
 clear hf;have lx:=iL (.bC x.natAbs);have ly:=iL (.bC y.natAbs);have dx:(cI x).drop 2=wC (bC 16 x.natAbs):=rfl;have dy:(cI y).drop 2=wC (bC 16 y.natAbs):=rfl;refine aG fun K hK=>?_;simp only[↓zP,zJ,Nat.reduceLT,Nat.reduceEqDiff,Nat.reduceAdd,Nat.reduceLeDiff,f2,g0,oL la,dx,lx];refine bW (s1 _) ?_;have e1:decide (((sz x.natAbs:Nat):Int)<=2)=true:=Af (by have :=aBy hx;omega);have e2:decide (((sz y.natAbs:Nat):Int)<=2)=true:=Af (by have :=aBy hy;omega);simp only[↓zP,zJ,Nat.reduceLT,Nat.reduceEqDiff,Nat.reduceAdd,f3,g1,oL lb,dy,ly,e1];refine bW (s2 _) ?_;simp only[↓zP,zJ,Nat.reduceLT,Nat.reduceEqDiff,e2];refine Dz ?_;have h0:=jQ x.natAbs 0;have h1:=jQ x.natAbs 1;have k0:=jQ y.natAbs 0;have k1:=jQ y.natAbs 1;have hW:W=4294967296:=rfl;have p0:(cI x).getD 2 aD=.int .u32 (bF x.natAbs 0:Nat):=lI (a:=x.natAbs) (i:=0) (by decide);have p1:(cI x).getD 3 aD=.int .u32 (bF x.natAbs 1:Nat):=lI (a:=x.natAbs) (i:=1) (by decide);have q0:(cI y).getD 2 aD=.int .u32 (bF y.natAbs 0:Nat):=lI (a:=y.natAbs) (i:=0) (by decide);have q1:(cI y).getD 3 aD=.int .u32 (bF y.natAbs 1:Nat):=lI (a:=y.natAbs) (i:=1) (by decide);have w0:IntKind.u64.wrap ((bF x.natAbs 0:Nat):Int)=(bF x.natAbs 0:Nat):=sE (by omega) (.inl rfl);have w1:IntKind.u64.wrap ((bF x.natAbs 1:Nat):Int)=(bF x.natAbs 1:Nat):=sE (by omega) (.inl rfl);have v0:IntKind.u64.wrap ((bF y.natAbs 0:Nat):Int)=(bF y.natAbs 0:Nat):=sE (by omega) (.inl rfl);have v1:IntKind.u64.wrap ((bF y.natAbs 1:Nat):Int)=(bF y.natAbs 1:Nat):=sE (by omega) (.inl rfl);have ox:=aSl h1 h0;have oy:=aSl k1 k0;rw[WZ hx] at ox;rw[WZ hy] at oy;simp only[↓zP,zJ,Nat.reduceLT,Nat.reduceEqDiff,Nat.reduceAdd,zD,reduceCtorEq,Nat.reduceLeDiff,Int.reduceLT,f2,f3,g0,g1,oL la,oL lb,nC,p0,p1,q0,q1,w0,w1,v0,v1,ox,oy];refine dT fun f' hf=>?_;have Tv:f' 4=.ref 2 0:=by subst hf;simp only[zB,Nat.reduceEqDiff];exact f4
 have f5:f' 5=.int .u64 (x.natAbs:Nat):=by subst hf;simp only[zB,Nat.reduceEqDiff]
 have f6:f' 6=.int .u64 (y.natAbs:Nat):=by subst hf;simp only[zB]
 clear hf f2 f3 f4;refine aF (iG [5,6] (fun m vs H'=>H'=HA/\∃a b:Nat,vs=[.int .u64 (a:Nat),.int .u64 (b:Nat)]/\a<2^64/\b<2^64/\m=b/\Nat.gcd a b=Nat.gcd x.natAbs y.natAbs) y.natAbs (by rfl) ?_ ?_)
 · exact⟨rfl,_,_,by simp only[sm,f5,f6],hx,hy,rfl,rfl⟩
 rintro b f H1 hk ⟨rfl,a,_,hv,hx1,hy1,rfl,hgc⟩;simp only[zM] at hv;obtain⟨h5,h6⟩:=hv;have f4:f 4=.ref 2 0:=by rw[hk 4 rfl];exact Tv
 by_cases VD:b=0
 · subst VD;have e0:(((0:Nat):Int) != 0)=false:=rfl;have ea:a=Int.gcd x y:=by rw[Nat.gcd_zero_right] at hgc;exact hgc
   have l2:=RX hx1;have hl:=SQ.bC a;have q0:((a%W:Nat):Int)=(bF a 0:Nat):=(by simp[bF]);have q1:((a / W%W:Nat):Int)=(bF a 1:Nat):=(by simp[bF]);have Xq:1<=(List.drop 1 (wC zs)).length:=(by decide);have hse:=oF (n:=false) (m:=a) (Ci hx1 (by decide)) (z:=(a:Int)) rfl;simp only[↓zP,zJ,Nat.reduceLT,Nat.reduceEqDiff,Nat.reduceAdd,Nat.reduceLeDiff,Int.reduceLT,h5,h6,e0,ZL,Nh,q0,q1,l2,Xq];refine bW (hse _) ?_;simp only[↓zP,zJ,Nat.reduceEqDiff,f4,g2,gM,xI,oL xI];refine⟨rfl,_,by simp only[↓zP,zR,Nat.reduceEqDiff,f4,g2,gM,oL (gM _)];rfl,?_⟩;rw[ea];rfl
 have e0:(((b:Nat):Int) != 0)=true:=Dc.2 (by omega);have bCo:¬((b:Nat):Int)=0:=by omega
 simp only[↓zP,zJ,Nat.reduceLT,h6,e0];refine aF ?_;refine Dz ?_;simp only[↓zP,zJ,Nat.reduceLT,Nat.reduceEqDiff,Nat.reduceAdd,zD,reduceCtorEq,h5,h6,bCo];have ht:Int.tmod (a:Int) (b:Int)=((a%b:Nat):Int):=rfl;have eZ:a%b<b:=Dg _ (by omega);have hwm:IntKind.u64.wrap ((a%b:Nat):Int)=((a%b:Nat):Int):=sE (by omega) (.inl rfl);rw[ht];exact⟨_,eZ,b,a%b,rfl,hy1,by omega,rfl,by rw[Ie,<-Nat.gcd_rec,Ie,hgc]⟩
def EP (x y:Int):Int×Int:=if(!decide (x.tmod y=0)&&(decide (x.tmod y<0) != decide (y<0)))=true then(x.tdiv y -1,x.tmod y+y) else(x.tdiv y,x.tmod y)
theorem tdiv_le (x y:Int):(x.tdiv y).natAbs<=x.natAbs:=by rw[Int.natAbs_tdiv];exact Jr _ _
theorem aHr (x:Int) {y:Int} (h:y≠0):(x.tmod y).natAbs<y.natAbs:=by rw[Int.natAbs_tmod];exact Dg _ (by omega)
theorem DC {a b:List AV} {x y:Int} (ha:iU a (some x)) (hb:iU b (some y)) (Wp: -2^63<x) (hx1:x<2^63) (Mn: -2^63<y) (hy1:y<2^63) (hy:y≠0) (H:aA):
 Sg 194 [.agg a,.agg b] H (.ret (.jR [.agg (cI (EP x y).1),.agg (cI (EP x y).2)])) H:=by
 refine Sp aXl (by simp only[sf,ha.free,hb.free]) (by simp only[sf,dC]) ?_ H;unfold aMv;dsimp only;have hg:=AL ha hb;have hs:=Mf hb;have h1:=GP ha;have h2:=GP hb;have e1:iW (some x)=(x,true):=by simp only[iW];rw[if_pos (by omega)]
 have e2:iW (some y)=(y,true):=by simp only[iW];rw[if_pos (by omega)]
 rw[e1] at h1;rw[e2] at h2
 have hsg:(yW (some y)==0)=false:=by simp only[yW];split<;>(try split)<;>first|rfl|omega
 have hq:=tdiv_le x y;have hr:=aHr x hy;have wq:IntKind.i64.wrap (x.tdiv y)=x.tdiv y:=wrap_i64 (by omega) (by omega);have wr:IntKind.i64.wrap (x.tmod y)=x.tmod y:=wrap_i64 (by omega) (by omega);have la:=ha.len;have lb:=hb.len;have nx:(x != -9223372036854775808)=true:=Dc.2 (by omega);have ny:(y != -9223372036854775808)=true:=Dc.2 (by omega);refine bQ ?_;simp only[↓zP,zJ,seval];refine bR ?_;have xI:(AV.bool false::AV.bool false::wC zs).length=18:=by simp[dA];rfl
 have gM:∀z,(cI z).length=18:=fun z=>dH z;generalize hX:((((aA.mk 0 .nil).alloc _).alloc _).alloc _).alloc _=HA;have g0:HA.get 0=some (.cells a false):=by subst hX;simp only[zI,seval]
 have g1:HA.get 1=some (.cells b false):=by subst hX;simp only[zI,seval]
 have g2:HA.get 2=some (.cells (AV.bool false::AV.bool false::wC zs) false):=by subst hX;simp only[zI,seval]
 have g3:HA.get 3=some (.cells (AV.bool false::AV.bool false::wC zs) false):=by subst hX;simp only[zI,seval]
 clear hX;refine bQ ?_;simp only[↓zP,zJ,seval,g0,g1,oL la,oL lb];refine bW (hg _) ?_;simp only[↓zP,zJ,seval,g1,oL lb,Bd,Df];refine bW (hs _) ?_;simp only[↓zP,zG,seval,hsg];refine bR ?_;refine aG fun K hK=>?_;refine bQ ?_;simp only[↓zP,zJ,seval,g0,oL la];refine bW (h1 _) ?_;simp only[↓zP,zJ,seval];refine bR ?_;clear hK;refine dT fun f hf=>?_;have f3:f 3=.ref 1 0:=by subst hf;simp only[zB,seval]
 have f4:f 4=.ref 2 0:=by subst hf;simp only[zB,seval]
 have f5:f 5=.ref 3 0:=by subst hf;simp only[zB,seval]
 have f6:f 6=.int .i64 x:=by subst hf;simp only[zB,seval]
 have f7:f 7=.bool true:=by subst hf;simp only[zB,seval]
 clear hf;refine bQ ?_;simp only[↓zP,zG,seval,f6,f7,nx];refine bR ?_;simp only[↓zP,zJ,seval,f3,g1,oL lb];refine bW (h2 _) ?_;simp only[↓zP,zJ,seval,ny];refine dT fun f' hf=>?_;have Tv:f' 4=.ref 2 0:=by subst hf;simp only[zB,seval];exact f4
 have Mi:f' 5=.ref 3 0:=by subst hf;simp only[zB,seval];exact f5
 have f6':f' 6=.int .i64 x:=by subst hf;simp only[zB,seval];exact f6
 have f8':f' 8=.int .i64 y:=by subst hf;simp only[zB,seval]
 clear hf f3 f4 f5 f6 f7;refine Dz ?_
 have Zv:EP x y=if(!decide (x.tmod y=0)&&(decide (x.tmod y<0) != decide (y<0)))=true then(x.tdiv y -1,x.tmod y+y) else(x.tdiv y,x.tmod y):=rfl
 have oq:=GN (z:=x.tdiv y) (by omega) (by omega);have or:=GN (z:=x.tmod y) (by omega) (by omega);have oq1:∀H,Sg 95 [.int .i64 (x.tdiv y -1)] H (.ret (.agg (cI (x.tdiv y -1)))) H:=GN (by omega) (by omega);have wq1:IntKind.i64.wrap (x.tdiv y -1)=x.tdiv y -1:=wrap_i64 (by omega) (by omega);by_cases c0:x.tmod y=0
 · have hn:(x.tmod y != 0)=false:=by simp[c0]
   rw[Af c0] at Zv;simp only[↓zP,zJ,seval,zD,f6',f8',hy,wq,hn];refine bW (oq _) ?_;simp only[↓zP,zG,seval];refine bW (or _) ?_;simp only[↓zP,zJ,seval,Tv,Mi,g2,g3,gM,xI,oL xI];refine⟨rfl,_,by simp only[↓zP,zR,seval,Tv,Mi,gM,oL (gM _)];rfl,?_⟩;rw[Zv];rfl
 have hn:(x.tmod y != 0)=true:=Dc.2 c0;rw[Ae c0] at Zv;by_cases cA:x.tmod y<0
 · have hA:=Af cA;rw[hA] at Zv;by_cases cB:y<0
   · have hB:=Af cB;rw[hB] at Zv;simp only[↓zP,zJ,seval,zD,f6',f8',hy,wq,hn,hA,hB];refine bW (oq _) ?_;simp only[↓zP,zG,seval];refine bW (or _) ?_;simp only[↓zP,zJ,seval,Tv,Mi,g2,g3,gM,xI,oL xI];refine⟨rfl,_,by simp only[↓zP,zR,seval,Tv,Mi,gM,oL (gM _)];rfl,?_⟩;rw[Zv];rfl
   have hB:=Ae cB;rw[hB] at Zv;have or1:∀H,Sg 95 [.int .i64 (x.tmod y+y)] H (.ret (.agg (cI (x.tmod y+y)))) H:=GN (by omega) (by omega);have wr1:IntKind.i64.wrap (x.tmod y+y)=x.tmod y+y:=wrap_i64 (by omega) (by omega);simp only[↓zP,zJ,seval,zD,f6',f8',hy,wq,hn,hA,hB,wq1,wr1];refine bW (oq1 _) ?_;simp only[↓zP,zG,seval];refine bW (or1 _) ?_;simp only[↓zP,zJ,seval,Tv,Mi,g2,g3,gM,xI,oL xI];refine⟨rfl,_,by simp only[↓zP,zR,seval,Tv,Mi,gM,oL (gM _)];rfl,?_⟩;rw[Zv];rfl
 have hA:=Ae cA;rw[hA] at Zv;by_cases cB:y<0
 · have hB:=Af cB;rw[hB] at Zv;have or1:∀H,Sg 95 [.int .i64 (x.tmod y+y)] H (.ret (.agg (cI (x.tmod y+y)))) H:=GN (by omega) (by omega);have wr1:IntKind.i64.wrap (x.tmod y+y)=x.tmod y+y:=wrap_i64 (by omega) (by omega);simp only[↓zP,zJ,seval,zD,f6',f8',hy,wq,hn,hA,hB,wq1,wr1];refine bW (oq1 _) ?_;simp only[↓zP,zG,seval];refine bW (or1 _) ?_;simp only[↓zP,zJ,seval,Tv,Mi,g2,g3,gM,xI,oL xI];refine⟨rfl,_,by simp only[↓zP,zR,seval,Tv,Mi,gM,oL (gM _)];rfl,?_⟩;rw[Zv];rfl
 have hB:=Ae cB;rw[hB] at Zv;simp only[↓zP,zJ,seval,zD,f6',f8',hy,wq,hn,hA,hB];refine bW (oq _) ?_;simp only[↓zP,zG,seval];refine bW (or _) ?_;simp only[↓zP,zJ,seval,Tv,Mi,g2,g3,gM,xI,oL xI];refine⟨rfl,_,by simp only[↓zP,zR,seval,Tv,Mi,gM,oL (gM _)];rfl,?_⟩;rw[Zv];rfl
theorem KL {a b:List AV} {x y:Int} (ha:iU a (some x)) (hb:iU b (some y)) (Wp: -2^63<x) (hx1:x<2^63) (Mn: -2^63<y) (hy1:y<2^63) (hy:y≠0) (H:aA):
 Sg 138 [.agg a,.agg b] H (.ret (.agg (cI (EP x y).1))) H:=by
 refine Sp aVx (by simp only[sf,ha.free,hb.free]) (by simp only[sf,dC]) ?_ H;unfold aLj;dsimp only;have hd:=DC ha hb Wp hx1 Mn hy1 hy;have la:=ha.len;have lb:=hb.len;have xI:(AV.bool false::AV.bool false::wC zs).length=18:=by simp[dA];rfl
 have gM:∀z,(cI z).length=18:=fun z=>dH z;generalize EP x y=d at *;refine bQ ?_;simp only[↓zP,zJ,seval];refine bR ?_;simp only[↓zP,zJ,seval,oL la,oL lb];refine bW (hd _) ?_;simp only[↓zP,zJ,seval,gM,xI,oL xI,oL (gM _)];refine⟨rfl,_,by simp only[↓zP,zR,seval,gM,oL (gM _)];rfl,?_⟩;rfl
theorem fx {a b:List AV} {x y:Int} (ha:iU a (some x)) (hb:iU b (some y)) (Wp: -2^63<x) (hx1:x<2^63) (Mn: -2^63<y) (hy1:y<2^63) (hy:y≠0) (H:aA):
 Sg 257 [.agg a,.agg b] H (.ret (.agg (cI (EP x y).2))) H:=by
 refine Sp aZd (by simp only[sf,ha.free,hb.free]) (by simp only[sf,dC]) ?_ H;unfold aOm;dsimp only;have hd:=DC ha hb Wp hx1 Mn hy1 hy;have la:=ha.len;have lb:=hb.len;have xI:(AV.bool false::AV.bool false::wC zs).length=18:=by simp[dA];rfl
 have gM:∀z,(cI z).length=18:=fun z=>dH z;generalize EP x y=d at *;refine bQ ?_;simp only[↓zP,zJ,seval];refine bR ?_;simp only[↓zP,zJ,seval,oL la,oL lb];refine bW (hd _) ?_;simp only[↓zP,zJ,seval,gM,xI,oL xI,oL (gM _)];refine⟨rfl,_,by simp only[↓zP,zR,seval,gM,oL (gM _)];rfl,?_⟩;rfl
def Tl (x y:Int):Bool:=decide (-2^63<x)&&decide (x<2^63)&&decide (-2^63<y)&&decide (y<2^63)&& !decide (y=0)
def aGl (g:Int×Int->AV):List AV->Option AV
 |[.agg a,.agg b]=>match Nc a,Nc b with
  |some (some x),some (some y)=>match Tl x y with
   |true=>some (g (EP x y))
   |false=>none
  |_,_=>none
 |_=>none
theorem cx {g:Int×Int->AV} {f:FuncId} (hS:∀a b x y,iU a (some x)->iU b (some y)->-2^63<x->x<2^63->-2^63<y->y<2^63->y≠0->∀H,Sg f [.agg a,.agg b] H (.ret (g (EP x y))) H) {args:List AV} {v:AV} (h:aGl g args=some v) (H:aA):Sg f args H (.ret v) H:=by
 unfold aGl at h;split at h
 · rename_i a b;split at h
   · rename_i x y hx hy;split at h
     · rename_i hc;cases h;simp only[Tl,Am,Cp,Bg,Bk] at hc;obtain⟨⟨⟨⟨c1,c2⟩,c3⟩,c4⟩,c5⟩:=hc;exact hS a b x y (sM hx) (sM hy) c1 c2 c3 c4 c5 H
     cases h
   cases h
 cases h
def aSm (f:FuncId) (args:List AV):Option AV:=
 match Nat.beq f 138 with
 |true=>aGl (fun d=>.agg (cI d.1)) args
 |false=>match Nat.beq f 257 with
 |true=>aGl (fun d=>.agg (cI d.2)) args
 |false=>aSn f args
theorem aGp {f:FuncId} {args:List AV} {v:AV} (h:aSm f args=some v) (H:aA):Sg f args H (.ret v) H:=by
 unfold aSm at h;split at h
 · rename_i hf;obtain rfl:=Bh hf;exact cx (fun a b x y ha hb h1 h2 h3 h4 h5 H=>KL ha hb h1 h2 h3 h4 h5 H) h H
 split at h
 · rename_i hf;obtain rfl:=Bh hf;exact cx (fun a b x y ha hb h1 h2 h3 h4 h5 H=>fx ha hb h1 h2 h3 h4 h5 H) h H
 exact aGq h H
def cR (n d:Int):List AV:=cI n++cI d
theorem uc (n d:Int):(cR n d).length=36:=by rw[cR,Au,dH,dH]
theorem aDt (n d:Int):(cR n d).take 18=cI n:=by rw[cR,Co (by rw[dH];decide)];exact(oL (dH n)).2.1
theorem aDs (n d:Int):(cR n d).drop 18=cI d:=by rw[cR,It (by rw[dH];decide),(oL (dH n)).2.2,Dw]
theorem ZU (n d:Int):bL (cR n d)=true:=by rw[cR,gS,dC,dC];rfl
theorem CJ {a:List AV} {x:Int} (ha:iU a (some x)) (H:aA):Sg 188 [.agg a] H (.ret (.bool true)) H:=by
 refine So aXh (by simp only[sf,ha.free]) ?_ H;unfold aMr;dsimp only;have la:=ha.len;obtain⟨rfl,hz⟩:=ha.some
 have hv:∀H,Sg 177 [.agg (cI x)] H (.ret (.bool true)) H:=fun H=>by
  have :=UQ false (decide (x<0)) (.bC x.natAbs) H
  have e:(!decide (bC 16 x.natAbs=zs)|| !decide (x<0))=true:=by
   by_cases h:x<0
   · have :decide (bC 16 x.natAbs=zs)=false:=(by rw[Ae];rw[AT hz];omega);rw[this];rfl
   rw[Ae h];simp
  rw[if_neg (by decide),e] at this;exact this
 have e0:(cI x).getD 0 aD=.bool false:=rfl;simp only[↓zP,zJ,seval,la,e0];refine bW (hv _) ?_;simp only[↓zP,zG,seval];refine Rx ?_;rfl
theorem aBh (H:aA):Sg 133 [] H (.ret (.agg (cI 1))) H:=by refine Sp aJi (by simp only[sf]) (by simp only[sf,dC]) ?_ H;unfold aCv;dsimp only;simp only[↓zP,zJ,seval];refine bW (GN (z:=1) (by decide) (by decide) _) ?_;simp only[↓zP,zJ,seval];refine Rx ?_;rfl
theorem oe {n d:Int} (hn:n.natAbs<2^64) (hd:d.natAbs<2^64) (hp:0<d) (hg:Int.gcd n d=1) (H:aA):Sg 135 [.agg (cR n d)] H (.ret (.bool true)) H:=by
 refine So aVv (by simp only[sf,ZU]) ?_ H;unfold aLh;dsimp only;have wn:n.natAbs<W^16:=Ci hn (by decide);have wd:d.natAbs<W^16:=Ci hd (by decide);have g1:=CJ (.enc wn);have g2:=CJ (.enc wd);have sg:=Mf (.enc wd);have gc:=KG (.enc wn) (.enc wd) hn hd;rw[hg] at gc
 have e1:decide (yW (some d)>0)=true:=by simp only[yW];split<;>(try split)<;>first|omega|rfl
 have l1:=uc n d;have l2:=aDt n d;have l3:=aDs n d;have gM:∀z,(cI z).length=18:=fun z=>dH z;have eqq:cJ [.b,.b,.i,.i,.i,.i,.i,.i,.i,.i,.i,.i,.i,.i,.i,.i,.i,.i] (cI 1) (cI 1)=some true:=by rfl
 simp only[↓zP,zJ,seval,l1,l2];refine bW (g1 _) ?_;simp only[↓zP,zJ,seval,l1,l3,oL (gM _)];refine bW (g2 _) ?_;simp only[↓zP,zJ,seval,l1,l3,oL (gM _)];refine bW (sg _) ?_;simp only[↓zP,zJ,seval,l1,l2,l3,oL (gM _),e1];refine bW (gc _) ?_;simp only[↓zP,zG,seval];refine bW (aBh _) ?_;simp only[↓zP,zG,seval,eqq];refine Rx ?_;rfl
def wX (n d:Int):Int:=if d<0 then -(Int.gcd n d:Int) else(Int.gcd n d:Int)
theorem og {a b:List AV} {n d:Int} (ha:iU a (some n)) (hb:iU b (some d)) (Xx: -2^63<n) (Kq:n<2^63) (Xp: -2^63<d) (Xq:d<2^63) (hd:d≠0) (H:aA):
 Sg 132 [.agg a,.agg b] H (.ret (.agg (cR (EP n (wX n d)).1 (EP d (wX n d)).1))) H:=by
 refine Sp aVu (by simp only[sf,ha.free,hb.free]) (by simp only[sf,ZU]) ?_ H;unfold aLg;dsimp only;have g1:=CJ ha;have g2:=CJ hb;have sg:=Mf hb;have gc:=KG ha hb (by omega) (by omega);have la:=ha.len;have lb:=hb.len;have gM:∀z,(cI z).length=18:=fun z=>dH z;have xI:(AV.bool false::AV.bool false::wC zs).length=18:=by simp[dA];rfl
 have hgz:(Int.gcd n d)≠0:=fun h=>hd (Int.gcd_eq_zero_iff.1 h).2;have hgl:Int.gcd n d<=d.natAbs:=Nat.gcd_le_right _ (by omega)
 have e1:(yW (some d)==0)=false:=by simp only[yW];split<;>(try split)<;>first|rfl|omega
 have e2:decide (yW (some d)<0)=decide (d<0):=by rw[Bb];simp only[yW];split<;>(try split)<;>omega
 have hwg:(Int.gcd n d:Int).natAbs<W^16:=Ci (show(Int.gcd n d:Int).natAbs<2^63 by omega) (by decide);have ng:=XC (.enc hwg);have hwm:(wX n d).natAbs<W^16:=by unfold wX;split<;>omega
 have Xw:wX n d≠0:=by unfold wX;split<;>omega
 have dR: -2^63<wX n d:=by unfold wX;split<;>omega
 have fH:wX n d<2^63:=by unfold wX;split<;>omega
 have q1:=KL ha (.enc hwm) Xx Kq dR fH Xw;have q2:=KL hb (.enc hwm) Xp Xq dR fH Xw;refine bQ ?_;simp only[↓zP,zJ,seval];refine bR ?_;generalize hX:(((aA.mk 0 .nil).alloc _).alloc _).alloc _=HA;have ai:HA.next=3:=by subst hX;rfl
 have EV:HA.get 0=some (.cells a false):=by subst hX;simp only[zI,seval]
 have Xl:HA.get 1=some (.cells b false):=by subst hX;simp only[zI,seval]
 obtain⟨zz,jo,z36⟩:∃zz,HA.get 2=some (.cells zz false)/\zz.length=36:=by subst hX;refine⟨_,by simp only[zI,seval];rfl,?_⟩;rfl
 clear hX;refine bQ ?_;simp only[↓zP,zJ,seval,EV,oL la];refine bW (g1 _) ?_;simp only[↓zP,zJ,seval,Xl,oL lb];refine bW (g2 _) ?_;simp only[↓zP,zJ,seval,Xl,oL lb];refine bW (sg _) ?_;simp only[↓zP,zG,seval,e1];refine bR ?_;refine dT fun f hf=>?_;have f2:f 2=.ref 0 0:=by subst hf;simp only[zB,seval]
 have f3:f 3=.ref 1 0:=by subst hf;simp only[zB,seval]
 have f4:f 4=.ref 2 0:=by subst hf;simp only[zB,seval]
 clear hf;refine bQ ?_;simp only[↓zP,zJ,seval,f2,f3,EV,Xl,oL la,oL lb];refine bW (gc _) ?_;simp only[↓zP,zJ,seval,ai,gM,xI,oL xI];refine bR ?_;generalize hX:(HA.alloc _).set 3 _=HB;have h0:HB.get 0=some (.cells a false):=by subst hX;simp only[zI,seval,ai,EV]
 have h1:HB.get 1=some (.cells b false):=by subst hX;simp only[zI,seval,ai,Xl]
 have h2:HB.get 2=some (.cells zz false):=by subst hX;simp only[zI,seval,ai,jo]
 have h3:HB.get 3=some (.cells (cI (Int.gcd n d)) false):=by subst hX;simp only[zI,seval]
 clear hX EV Xl jo ai HA;refine dT fun f' hf=>?_;have f2':f' 2=.ref 0 0:=by subst hf;simp only[zB,seval];exact f2
 have f3':f' 3=.ref 1 0:=by subst hf;simp only[zB,seval];exact f3
 have Tv:f' 4=.ref 2 0:=by subst hf;simp only[zB,seval];exact f4
 have Mi:f' 5=.ref 3 0:=by subst hf;simp only[zB,seval]
 clear hf f2 f3 f4 f;refine aG fun K hK=>?_
 have key:∀(f:dD) (HC:aA),f 2=.ref 0 0->f 3=.ref 1 0->f 4=.ref 2 0->f 5=.ref 3 0->HC.get 0=some (.cells a false)->HC.get 1=some (.cells b false)->HC.get 2=some (.cells zz false)->HC.get 3=some (.cells (cI (wX n d)) false)->K f [] HC:=by
  intro f HC f2 f3 f4 f5 h0 h1 h2 h3;apply hK;clear hK K;refine bQ ?_;refine Dz ?_;generalize (EP n (wX n d)).1=qa at *;generalize (EP d (wX n d)).1=qb at *;have k1:(cI qa++AV.bool false::AV.bool false::wC zs).length=36:=by rw[Au,gM,xI]
  have k2:(cI qa++AV.bool false::AV.bool false::wC zs).take 18=cI qa:=by rw[Co (by rw[gM];decide)];exact(oL (gM qa)).2.1
  have hcR:cI qa++cI qb=cR qa qb:=rfl;have Zt:=oL (uc qa qb);have k3:(cI qa++AV.bool false::AV.bool false::wC zs).drop 36=[]:=Ii (by rw[k1];decide);simp only[↓zP,zJ,seval,zD,f2,f5,h0,h3,oL la,oL (gM _)];refine eE (q1 _) ?_;simp only[↓zP,zJ,seval,zD,f3,f5,h1,h3,oL lb,oL (gM _)];refine eE (q2 _) ?_;simp only[↓zP,zJ,seval,zD,f4,h0,h1,h2,h3,oL (gM _),z36,oL z36,k1,k2,k3,hcR,Zt];refine bR ?_;simp only[↓zP,seval];refine⟨rfl,_,by simp only[↓zP,zR,seval,f4,Zt];rfl,?_⟩;rfl
 simp only[↓zP,zJ,seval,f3',h1,oL lb];refine bW (sg _) ?_;simp only[↓zP,zG,seval,e2];refine⟨fun j8=>?_,fun j8=>?_⟩
 · have em:wX n d= -(Int.gcd n d:Int):=by unfold wX;rw[if_pos j8]
   have ev:AV.agg (cO (QM (some (Int.gcd n d:Int))))=AV.agg (cI (wX n d)):=(by rw[em];rfl);rw[ev] at ng;simp only[zJ,seval,Mi,h3,oL (gM _)];refine bW (ng _) ?_;simp only[↓zP,zJ,seval,Mi,h3,oL (gM _)];refine key _ _ ?_ ?_ ?_ ?_ ?_ ?_ ?_ ?_
   · simp only[zB,seval];exact f2'
   · simp only[zB,seval];exact f3'
   · simp only[zB,seval];exact Tv
   · simp only[zB,seval];exact Mi
   · simp only[zI,seval,h0]
   · simp only[zI,seval,h1]
   · simp only[zI,seval,h2]
   simp only[zI,seval]
 have em:wX n d=(Int.gcd n d:Int):=by unfold wX;rw[if_neg j8]
 rw[<-em] at h3;refine key _ _ ?_ ?_ ?_ ?_ h0 h1 h2 h3
 · simp only[zB,seval];exact f2'
 · simp only[zB,seval];exact f3'
 · simp only[zB,seval];exact Tv
 simp only[zB,seval];exact Mi
end Go.Proofs.YtndkpgceodimiaaGreatDoor
namespace Go.Proofs.YtndkpgceodimiaaGreatDoor
open Go Go.Av Go.aI
def plX (l:List aI.V) (q:aI.V×Int):List Nat:=aAg (kA (fun i=>l.getD i V0) l.length q.1 q.2) (uR q.1 (fun i=>l.getD i V0) (kA (fun i=>l.getD i V0) l.length q.1 q.2))
theorem Zh {l:List aI.V} (hl:l.Pairwise iI) {q:aI.V×Int} (hq:q∈jH l):nG l q=plX l q:=aGu ((pB hl).po q hq)
theorem Zi {l:List aI.V} {S:List (aI.V×Int)} (h:ig (fun i=>l.getD i V0) l.length S=true):jH l=S:=(tD l).uniq (HM h)
theorem WU {S:List (aI.V×Int)} {L L':aI.V×Int->List Nat} (h:∀q∈S,L q=L' q) (k:Nat):gL S L k=gL S L' k:=by
 unfold gL;rw[Cg,Bu,Bu];constructor
 · rintro⟨q,hq,hk⟩;exact⟨q,hq,by rw[<-h q hq];exact hk⟩
 rintro⟨q,hq,hk⟩;exact⟨q,hq,by rw[h q hq];exact hk⟩
theorem XM (l C:List aI.V) {S:List (aI.V×Int)} {L L':aI.V×Int->List Nat} (h:∀q∈S,L q=L' q):NS l C S L=NS l C S L':=by
 have hL:gY C S L=gY C S L':=by unfold gY;rw[show gL S L=gL S L' from funext (WU h)]
 have hO:iT l C S L=iT l C S L':=by unfold iT;rw[hL]
 unfold NS;rw[hO,hL]
def ow:List aI.V->Bool
 |[]=>true
 |v::r=>(r.all fun x=>ltV v x)&&ow r
theorem Mx:∀{l:List aI.V},ow l=true->l.Pairwise iI
 |[],_=>.nil
 |q::r,h=>by simp only[ow,Am,Aw] at h;exact Cl.2 ⟨fun x hx=>bu.1 (h.1 x hx),Mx h.2⟩
theorem aDu {l:List aI.V} {S:List (aI.V×Int)} (hl:ow l=true) (h:ig (fun i=>l.getD i V0) l.length S=true):pQ l=NS l l S (plX l):=by have hs:=Mx hl;unfold pQ;rw[Oi hs,XM l l (S:=jH l) fun q hq=>Zh hs hq,Zi h]
theorem vf {l:List aI.V} {S:List (aI.V×Int)} (hl:ow l=true) (h:ig (fun i=>l.getD i V0) l.length S=true):wD l S (plX l) where
 fl:=HM h
 po q hq:=by
  have Wl:q∈jH l:=by rw[Zi h];exact hq
  have :=(pB (Mx hl)).po q Wl
  rwa [Zh (Mx hl) Wl] at this
def qY (o:Int) (p:Int):List aI.V:=[⟨o,p,p⟩,⟨o,p,p+2⟩,⟨o,p+2,p⟩,⟨o,p+2,p+2⟩,⟨o+2,p,p⟩,⟨o+2,p,p+2⟩,⟨o+2,p+2,p⟩,⟨o+2,p+2,p+2⟩]
def uk (o:Int) (p:Int):List (aI.V×Int):=[(⟨-1,0,0⟩,-o),(⟨0,-1,0⟩,-p),(⟨0,0,-1⟩,-p),(⟨0,0,1⟩,p+2),(⟨0,1,0⟩,p+2),(⟨1,0,0⟩,o+2)]
theorem ZX:ig (fun i=>(qY 0 0).getD i V0) (qY 0 0).length (uk 0 0)=true:=by decide+kernel
theorem ZY:ow (qY 0 0)=true:=by decide+kernel
theorem Qj:pQ (qY 0 0)=0:=by rw[aDu ZY ZX];decide+kernel
theorem YZ:fQ (qY 0 0)=0:=by unfold fQ;rw[if_neg (by rw[Qj];decide),show(qY 0 0).any vM=false by decide+kernel];rfl
theorem bBu:xD [qY 0 0]=0:=by
 rw[FO (fun l hl=>by rw[Bn] at hl;subst hl;exact YZ)];have :Om [qY 0 0]=false:=BC fun i k hi hk=>by simp only[Aq,Bj] at hi;omega
 rw[this];rfl
def Na (o p:Int):AV:=.aU 0 3 (bS (qY o p))
theorem je (o p:Int):tJ (Na o p,qY o p):=.inr rfl
theorem aFt (H:aA):Sg 114 [.agg [Na 0 0]] H (.ret (.aU (H.next+2) 5 ((uk 0 0).map (cU (plX (qY 0 0)))))) (H.alloc .tok):=by have hn:∀v∈qY 0 0,bT (2^18) v:=(xP Qj).2.2.2.2.2.2;exact KF (tag:=0) rfl hn (Ak _) (by decide) (vf ZY ZX) (by decide) H
end Go.Proofs.YtndkpgceodimiaaGreatDoor
namespace Go.Proofs.YtndkpgceodimiaaGreatDoor
open Go Go.Av Go.sK Go.aI
def aEc:List AV->Option (Int×Int)
 |[.agg a,.agg b]=>match Nc a,Nc b with
  |some (some x),some (some y)=>some (x,y)
  |_,_=>none
 |_=>none
theorem Za {args:List AV} {x y:Int} (h:aEc args=some (x,y)):∃a b,args=[.agg a,.agg b]/\iU a (some x)/\iU b (some y):=by
 unfold aEc at h;split at h
 · rename_i a b;split at h
   · rename_i x' y' hx hy;cases h;exact⟨a,b,rfl,sM hx,sM hy⟩
   cases h
 cases h
def aQa:List AV->Option (Int×Int)
 |[.agg c]=>match Nc (c.take 18),Nc (c.drop 18) with
  |some (some x),some (some y)=>some (x,y)
  |_,_=>none
 |_=>none
theorem aEd {args:List AV} {x y:Int} (h:aQa args=some (x,y)):args=[.agg (cR x y)]:=by
 unfold aQa at h;split at h
 · rename_i c;split at h
   · rename_i x' y' hx hy;cases h;have e1:=(sM hx).some.1;have e2:=(sM hy).some.1;rw[cR,<-e1,<-e2,Gb]
   cases h
 cases h
def aIm (x y:Int):Bool:=Nat.blt x.natAbs (2^64)&&Nat.blt y.natAbs (2^64)&&decide (0<y)&&Nat.beq (Int.gcd x y) 1
def ym:List AV->Bool
 |[.agg c]=>rL (tP c) [Na 0 0]
 |_=>false
def aIh:List (List AV):=[
 [.int .i64 (-1),.int .i64 0,.int .i64 0,.int .i64 0,.aU 0 1 [[.int .i64 0],[.int .i64 1],[.int .i64 3],[.int .i64 2]]],
 [.int .i64 0,.int .i64 (-1),.int .i64 0,.int .i64 0,.aU 0 1 [[.int .i64 0],[.int .i64 4],[.int .i64 5],[.int .i64 1]]],
 [.int .i64 0,.int .i64 0,.int .i64 (-1),.int .i64 0,.aU 0 1 [[.int .i64 0],[.int .i64 2],[.int .i64 6],[.int .i64 4]]],
 [.int .i64 0,.int .i64 0,.int .i64 1,.int .i64 2,.aU 0 1 [[.int .i64 1],[.int .i64 5],[.int .i64 7],[.int .i64 3]]],
 [.int .i64 0,.int .i64 1,.int .i64 0,.int .i64 2,.aU 0 1 [[.int .i64 2],[.int .i64 3],[.int .i64 7],[.int .i64 6]]],
 [.int .i64 1,.int .i64 0,.int .i64 0,.int .i64 2,.aU 0 1 [[.int .i64 4],[.int .i64 6],[.int .i64 7],[.int .i64 5]]]]
theorem uj:(uk 0 0).map (cU (plX (qY 0 0)))=aIh:=by kernel_rfl
def bBl (f:FuncId) (args:List AV) (H:aA):Option (Out×aA):=
 match aSm f args with
 |some v=>some (.ret v,H)
 |none=>match Nat.beq f 137 with
 |true=>match aEc args with
  |some (x,y)=>match Nat.blt x.natAbs (2^64)&&Nat.blt y.natAbs (2^64) with
   |true=>some (.ret (.agg (cI (Int.gcd x y))),H)
   |false=>none
  |none=>none
 |false=>match Nat.beq f 132 with
 |true=>match aEc args with
  |some (x,y)=>match Tl x y with
   |true=>some (.ret (.agg (cR (EP x (wX x y)).1 (EP y (wX x y)).1)),H)
   |false=>none
  |none=>none
 |false=>match Nat.beq f 135 with
 |true=>match aQa args with
  |some (x,y)=>match aIm x y with
   |true=>some (.ret (.bool true),H)
   |false=>none
  |none=>none
 |false=>match Nat.beq f 114 with
 |true=>match ym args with
  |true=>some (.ret (.aU (H.next+2) 5 aIh),H.alloc .tok)
  |false=>none
 |false=>none
theorem sV:LV Tryz.prog gv bBl:=by
 intro f args H out H' h;unfold bBl at h;split at h
 · rename_i v hv;cases h;exact aGp hv H
 split at h
 · rename_i hf;obtain rfl:=Bh hf;split at h
   · rename_i x y hd;obtain⟨a,b,rfl,ha,hb⟩:=Za hd;split at h
     · rename_i hc;cases h;simp only[Am,Gr] at hc;exact KG ha hb hc.1 hc.2 H
     cases h
   cases h
 split at h
 · rename_i hf;obtain rfl:=Bh hf;split at h
   · rename_i x y hd;obtain⟨a,b,rfl,ha,hb⟩:=Za hd;split at h
     · rename_i hc;cases h;simp only[Tl,Am,Cp,Bg,Bk] at hc;obtain⟨⟨⟨⟨c1,c2⟩,c3⟩,c4⟩,c5⟩:=hc;exact og ha hb c1 c2 c3 c4 c5 H
     cases h
   cases h
 split at h
 · rename_i hf;obtain rfl:=Bh hf;split at h
   · rename_i x y hd;obtain rfl:=aEd hd;split at h
     · rename_i hc;cases h;simp only[aIm,Am,Bg,Gr] at hc;obtain⟨⟨⟨c1,c2⟩,c3⟩,c4⟩:=hc;exact oe c1 c2 c3 (Bh c4) H
     cases h
   cases h
 split at h
 · rename_i hf;obtain rfl:=Bh hf;split at h
   · rename_i hc;cases h
     obtain⟨c,rfl,hc⟩:∃c,args=[.agg c]/\rL (tP c) [Na 0 0]=true:=by
      unfold ym at hc;split at hc
      · exact⟨_,rfl,hc⟩
      cases hc
     refine Sound.fgt ?_
     have e:tP [AV.agg c]=[.agg [Na 0 0]]:=by rw[tP,fgt,tP,nJ _ _ hc]
     rw[e,<-uj];exact aFt H
   cases h
 cases h
end Go.Proofs.YtndkpgceodimiaaGreatDoor
namespace Go.Proofs.YtndkpgceodimiaaGreatDoor
open Go Go.Av Go.aI
def bHg:FT:=.node 108 (.node 60 (.node 27 (.node 15 (.node 10 (.node 8 (.leaf 6 W6.1) (.leaf 8 W8.1)) (.node 12 (.leaf 10 W10.1) (.node 13 (.leaf 12 W12.1) (.leaf 13 W13.1)))) (.node 22 (.node 18 (.leaf 15 W15.1) (.node 21 (.leaf 18 W18.1) (.leaf 21 W21.1))) (.node 24 (.leaf 22 W22.1) (.node 25 (.leaf 24 W24.1) (.leaf 25 W25.1))))) (.node 43 (.node 34 (.node 28 (.leaf 27 W27.1) (.node 33 (.leaf 28 W28.1) (.leaf 33 W33.1))) (.node 40 (.leaf 34 W34.1) (.node 41 (.leaf 40 W40.1) (.leaf 41 W41.1)))) (.node 47 (.node 44 (.leaf 43 W43.1) (.node 46 (.leaf 44 W44.1) (.leaf 46 W46.1))) (.node 48 (.leaf 47 W47.1) (.node 55 (.leaf 48 W48.1) (.leaf 55 W55.1)))))) (.node 77 (.node 67 (.node 63 (.node 61 (.leaf 60 W60.1) (.node 62 (.leaf 61 W61.1) (.leaf 62 W62.1))) (.node 64 (.leaf 63 W63.1) (.node 65 (.leaf 64 W64.1) (.leaf 65 W65.1)))) (.node 73 (.node 71 (.leaf 67 W67.1) (.node 72 (.leaf 71 W71.1) (.leaf 72 W72.1))) (.node 74 (.leaf 73 W73.1) (.node 76 (.leaf 74 W74.1) (.leaf 76 W76.1))))) (.node 98 (.node 94 (.node 79 (.leaf 77 W77.1) (.node 80 (.leaf 79 W79.1) (.leaf 80 W80.1))) (.node 96 (.leaf 94 W94.1) (.node 97 (.leaf 96 W96.1) (.leaf 97 W97.1)))) (.node 101 (.node 99 (.leaf 98 W98.1) (.node 100 (.leaf 99 W99.1) (.leaf 100 aKm.1))) (.node 106 (.leaf 101 aKn.1) (.node 107 (.leaf 106 aKo.1) (.leaf 107 aKp.1))))))) (.node 199 (.node 148 (.node 141 (.node 119 (.node 109 (.leaf 108 aKq.1) (.node 118 (.leaf 109 aCo.1) (.leaf 118 aCr.1))) (.node 133 (.leaf 119 aCs.1) (.node 134 (.leaf 133 aCv.1) (.leaf 134 aCw.1)))) (.node 145 (.node 142 (.leaf 141 aLl.1) (.node 143 (.leaf 142 aLm.1) (.leaf 143 aLn.1))) (.node 146 (.leaf 145 aLp.1) (.node 147 (.leaf 146 aCy.1) (.leaf 147 aLq.1))))) (.node 175 (.node 155 (.node 153 (.leaf 148 aLr.1) (.node 154 (.leaf 153 aLs.1) (.leaf 154 aLt.1))) (.node 156 (.leaf 155 aLu.1) (.node 157 (.leaf 156 aLv.1) (.leaf 157 aCz.1)))) (.node 191 (.node 176 (.leaf 175 aDc.1) (.node 177 (.leaf 176 aDd.1) (.leaf 177 aDe.1))) (.node 197 (.leaf 191 aDh.1) (.node 198 (.leaf 197 aMy.1) (.leaf 198 aMz.1)))))) (.node 222 (.node 205 (.node 202 (.node 200 (.leaf 199 aNa.1) (.node 201 (.leaf 200 aNb.1) (.leaf 201 aNc.1))) (.node 203 (.leaf 202 aNd.1) (.node 204 (.leaf 203 aNe.1) (.leaf 204 aNf.1)))) (.node 219 (.node 213 (.leaf 205 aNg.1) (.node 217 (.leaf 213 aNi.1) (.leaf 217 aNj.1))) (.node 220 (.leaf 219 aNk.1) (.node 221 (.leaf 220 aNl.1) (.leaf 221 aNm.1))))) (.node 259 (.node 252 (.node 223 (.leaf 222 aNn.1) (.node 231 (.leaf 223 aDi.1) (.leaf 231 aNr.1))) (.node 256 (.leaf 252 aOk.1) (.node 258 (.leaf 256 aOl.1) (.leaf 258 aOn.1)))) (.node 268 (.node 260 (.leaf 259 aOo.1) (.node 261 (.leaf 260 aOp.1) (.leaf 261 aOq.1))) (.node 279 (.leaf 268 aOr.1) (.node 292 (.leaf 279 aOs.1) (.leaf 292 aPe.1)))))))
theorem sZ:bHg.rn fun f F=>∃mu,kP Tryz.prog gv mu f F:=⟨⟨⟨⟨⟨⟨⟨_,is6⟩,⟨_,is8⟩⟩,⟨⟨_,aUw⟩,⟨⟨_,aVi⟩,⟨_,aVr⟩⟩⟩⟩,⟨⟨⟨_,aWg⟩,⟨⟨_,aWz⟩,⟨_,bEx⟩⟩⟩,⟨⟨_,bEy⟩,⟨⟨_,bEz⟩,⟨_,aZa⟩⟩⟩⟩⟩,⟨⟨⟨⟨_,aRr⟩,⟨⟨_,aZl⟩,⟨_,bAg⟩⟩⟩,⟨⟨_,bAj⟩,⟨⟨_,bFj⟩,⟨_,bFk⟩⟩⟩⟩,⟨⟨⟨_,bFl⟩,⟨⟨_,bFm⟩,⟨_,bFn⟩⟩⟩,⟨⟨_,bFo⟩,⟨⟨_,bAq⟩,⟨_,bAt⟩⟩⟩⟩⟩⟩,⟨⟨⟨⟨⟨_,bFy⟩,⟨⟨_,bFz⟩,⟨_,bGa⟩⟩⟩,⟨⟨_,bGb⟩,⟨⟨_,bGc⟩,⟨_,bGd⟩⟩⟩⟩,⟨⟨⟨_,bGe⟩,⟨⟨_,bGf⟩,⟨_,bGg⟩⟩⟩,⟨⟨_,bGh⟩,⟨⟨_,bGi⟩,⟨_,bGj⟩⟩⟩⟩⟩,⟨⟨⟨⟨_,bGk⟩,⟨⟨_,bAv⟩,⟨_,bAw⟩⟩⟩,⟨⟨_,bGw⟩,⟨⟨_,bGy⟩,⟨_,bGz⟩⟩⟩⟩,⟨⟨⟨_,bHa⟩,⟨⟨_,bHb⟩,⟨_,aUx⟩⟩⟩,⟨⟨_,aUy⟩,⟨⟨_,aUz⟩,⟨_,aVa⟩⟩⟩⟩⟩⟩⟩,⟨⟨⟨⟨⟨⟨_,aVb⟩,⟨⟨_,aJb⟩,⟨_,aJe⟩⟩⟩,⟨⟨_,aJf⟩,⟨⟨_,aJi⟩,⟨_,aJj⟩⟩⟩⟩,⟨⟨⟨_,aVz⟩,⟨⟨_,aWa⟩,⟨_,aWb⟩⟩⟩,⟨⟨_,aWd⟩,⟨⟨_,aJl⟩,⟨_,aWe⟩⟩⟩⟩⟩,⟨⟨⟨⟨_,aWf⟩,⟨⟨_,aWh⟩,⟨_,aWi⟩⟩⟩,⟨⟨_,aWj⟩,⟨⟨_,aWk⟩,⟨_,aJm⟩⟩⟩⟩,⟨⟨⟨_,aJp⟩,⟨⟨_,aJq⟩,⟨_,aJr⟩⟩⟩,⟨⟨_,aJu⟩,⟨⟨_,aXo⟩,⟨_,aXp⟩⟩⟩⟩⟩⟩,⟨⟨⟨⟨⟨_,aXq⟩,⟨⟨_,aXr⟩,⟨_,aXs⟩⟩⟩,⟨⟨_,aXt⟩,⟨⟨_,aXu⟩,⟨_,aXv⟩⟩⟩⟩,⟨⟨⟨_,aXw⟩,⟨⟨_,aXy⟩,⟨_,aXz⟩⟩⟩,⟨⟨_,aYa⟩,⟨⟨_,aYb⟩,⟨_,aYc⟩⟩⟩⟩⟩,⟨⟨⟨⟨_,aYd⟩,⟨⟨_,aJv⟩,⟨_,aYh⟩⟩⟩,⟨⟨_,aZb⟩,⟨⟨_,aZc⟩,⟨_,aZe⟩⟩⟩⟩,⟨⟨⟨_,aZf⟩,⟨⟨_,aZh⟩,⟨_,aZi⟩⟩⟩,⟨⟨_,aZj⟩,⟨⟨_,aZk⟩,⟨_,aZx⟩⟩⟩⟩⟩⟩⟩⟩
def FN (g:bB) (T:FT) (Ws:MH):List Fact->List Fact->Bool
 |_,[]=>true
 |K,e::es=>match ran g T (aGm K Ws) aKb 2 e with
  |true=>FN g T Ws (e::K) es
  |false=>false
theorem xJ.FN {g:bB} {T:FT} {o:MH} (hm:Fit Tryz.prog g) (hg:CZ g) (hT:T.rn fun f F=>∃mu,kP Tryz.prog g mu f F) (ho:LV Tryz.prog g o):∀(es:List Fact) {K:List Fact},xJ Tryz.prog g K->FN g T o K es=true->xJ Tryz.prog g (es.reverseAux K)
 |[],_,hK,_=>hK
 |e::es,K,hK,h=>by
  unfold Proofs.YtndkpgceodimiaaGreatDoor.FN at h;split at h
  · rename_i h1;exact xJ.FN hm hg hT ho es (hK.ran hm hg hT ho zm 2 h1) h
  cases h
def v3 (a b c:Int):List AV:=cR a 1++cR b 1++cR c 1
def ZZ:AV:=.aU 0 3 [iC [0,0,0],iC [0,0,2],iC [0,2,0],iC [0,2,2],iC [2,0,0],iC [2,0,2],iC [2,2,0],iC [2,2,2]]
def p0:List AV:=iC [0,0,0,1,0,0,0]
def zz:AV:=.aU 0 3 [iC [0,0,0],iC [0,0,0]]
def bX (c:UInt8):List AV:=[.str [c],.aU 0 1 [[ZZ]],.int .i64 3,.int .i64 3,.int .i64 500,.int .i64 500]
def bA:List AV:=bX 97
def yX:List AV:=[.int .i64 10,.int .i64 500,.int .i64 500,.aU 0 14 [.int .i64 1::(bX 97++iC [90,0,0,1,0,0,0]),.int .i64 2::(bX 112++iC [95,0,0,1,0,0,0])],.aU 0 8 [iC [1,0,1,1,2,9,1,0]],.aU 0 10 [iC [1,0,1,1,5,0,0,7,0,0]]]
def sX (a t:Bool) (p:List AV):AV:=.agg [.aU 0 1 [[.bool a],[.bool false]],.aU 0 7 [p,iC [95,0,0,1,0,0,0]],zz,zz,.aU 0 1 [[.bool t]],.aU 0 1 [[.bool false]]]
def sA:AV:=sX false false (iC [90,0,0,1,0,0,0])
def sB:AV:=sX true false p0
def sC:AV:=sX true true p0
def pts:AV:=.aU 0 108 [v3 0 0 0,v3 0 0 2,v3 0 2 0,v3 0 2 2,v3 2 0 0,v3 2 0 2,v3 2 2 0,v3 2 2 2]
theorem aPy (c:UInt8) (hc:mH [c]=true):lT [c] [qY 0 0] 3 3 500 500=0:=by unfold lT;rw[if_neg (by rw[hc];decide),if_neg (by decide),if_neg (by decide+kernel),bBu]
theorem cj {c:UInt8} (hc:mH [c]=true) (H:aA):Sg 26 [.agg (bX c)] H (.ret (.int .i64 0)) H:=by have :=QY (name:=[c]) (by simp) (ps:=[(Na 0 0,qY 0 0)]) (fun p hp=>by rw[Bn] at hp;subst hp;exact je 0 0) (fun p hp=>by rw[Bn] at hp;subst hp;decide) (by decide) 3 3 500 500 H;rw[show([(Na 0 0,qY 0 0)].map (·.2))=[qY 0 0] from rfl,aPy c hc] at this;exact this
def kY0:List Fact:=[(26,[.agg (bX 97)],.int .i64 0),(26,[.agg (bX 112)],.int .i64 0)]
theorem aRu:xJ Tryz.prog gv kY0:=(xJ.nil.cons (cj (by decide+kernel))).cons (cj (by decide+kernel))
def eA:List Fact:=[(21,[.int .i64 90,.int .i64 0],.agg (iC [90,0,0,1,0,0,0])),
 (21,[.int .i64 95,.int .i64 0],.agg (iC [95,0,0,1,0,0,0])),
 (21,[.int .i64 0,.int .i64 9],.agg (iC [0,0,9,1,0,0,0])),
 (21,[.int .i64 0,.int .i64 0],.agg (p0)),
 (18,[.agg (yX)],sA),
 (6,[.agg (yX)],.int .i64 0),
 (13,[sA],.aS),
 (8,[.agg (yX),sA],.bool true),
 (10,[sA],.bool true),
 (22,[.agg (yX),sA,.agg ([.int .i64 1,.int .i64 1,.aU 0 7 [iC [0,0,9,1,0,0,0],p0]])],.jR [sB,.int .i64 0]),
 (10,[sB],.bool true),
 (22,[.agg (yX),sB,.agg ([.int .i64 1,.int .i64 1,.aU 0 7 [iC [0,0,9,1,0,0,0],p0]])],.jR [sB,.int .i64 4]),
 (22,[.agg (yX),sB,.agg ([.int .i64 2,.int .i64 1,.aU 0 7 [p0,iC [0,0,9,1,0,0,0]]])],.jR [sB,.int .i64 7]),
 (22,[.agg (yX),sB,.agg ([.int .i64 3,.int .i64 1,.aS])],.jR [sB,.int .i64 1]),
 (22,[.agg (yX),sB,.agg ([.int .i64 3,.int .i64 0,.aS])],.jR [sC,.int .i64 0]),
 (10,[sC],.bool true),
 (22,[.agg (yX),sC,.agg ([.int .i64 3,.int .i64 0,.aS])],.jR [sC,.int .i64 4]),
 (21,[.int .i64 5,.int .i64 0],.agg (iC [5,0,0,1,0,0,0])),
 (22,[.agg (yX),sC,.agg ([.int .i64 1,.int .i64 2,.aU 0 7 [iC [5,0,0,1,0,0,0]]])],.jR [sC,.int .i64 2]),
 (13,[sC],.aU 0 1 [iC [1]]),
 (12,[.aU 0 1 [iC [1]],.aU 0 1 [iC [1]]],.bool true),
 (24,[.agg ([.int .i64 3,.int .i64 0,.aS])],.aU 0 1 [[.int .u8 6],[.int .u8 0],[.int .u8 0]])]
def kYA:List Fact:=eA.reverseAux kY0
theorem aRv:xJ Tryz.prog gv kYA:=xJ.FN fit eU sZ sV eA aRu (by kernel_rfl)
def eB0:List Fact:=[(43,[.agg (iC [0,0,0])],.agg (v3 0 0 0)),
 (72,[.agg (v3 0 0 0),.agg (v3 1 1 2)],.agg (v3 1 1 2)),
 (44,[.agg (p0),.agg (iC [1,1,2])],.agg (v3 1 1 2)),
 (43,[.agg (iC [9,1,0])],.agg (v3 9 1 0)),
 (74,[.aU 0 6 [bA],.aU 0 7 [p0]],.bool true),
 (146,[.agg (iC [0,0,1])],.agg (iC [0,0,(-1)])),
 (72,[.agg (v3 0 0 0),.agg (v3 0 0 0)],.agg (v3 0 0 0)),
 (44,[.agg (p0),.agg (iC [0,0,0])],.agg (v3 0 0 0)),
 (72,[.agg (v3 0 0 0),.agg (v3 0 0 2)],.agg (v3 0 0 2)),
 (44,[.agg (p0),.agg (iC [0,0,2])],.agg (v3 0 0 2)),
 (72,[.agg (v3 0 0 0),.agg (v3 0 2 0)],.agg (v3 0 2 0)),
 (44,[.agg (p0),.agg (iC [0,2,0])],.agg (v3 0 2 0))]
def bAz:List Fact:=eB0.reverseAux kYA
theorem aFe:xJ Tryz.prog gv bAz:=xJ.FN fit eU sZ sV eB0 aRv (by kernel_rfl)
def eB1:List Fact:=[(72,[.agg (v3 0 0 0),.agg (v3 0 2 2)],.agg (v3 0 2 2)),
 (44,[.agg (p0),.agg (iC [0,2,2])],.agg (v3 0 2 2)),
 (72,[.agg (v3 0 0 0),.agg (v3 2 0 0)],.agg (v3 2 0 0)),
 (44,[.agg (p0),.agg (iC [2,0,0])],.agg (v3 2 0 0)),
 (72,[.agg (v3 0 0 0),.agg (v3 2 0 2)],.agg (v3 2 0 2)),
 (44,[.agg (p0),.agg (iC [2,0,2])],.agg (v3 2 0 2)),
 (72,[.agg (v3 0 0 0),.agg (v3 2 2 0)],.agg (v3 2 2 0)),
 (44,[.agg (p0),.agg (iC [2,2,0])],.agg (v3 2 2 0)),
 (72,[.agg (v3 0 0 0),.agg (v3 2 2 2)],.agg (v3 2 2 2)),
 (44,[.agg (p0),.agg (iC [2,2,2])],.agg (v3 2 2 2)),
 (147,[.agg (p0),.agg ([ZZ])],pts),
 (43,[.agg (iC [0,0,(-1)])],.agg (v3 0 0 (-1)))]
def bBa:List Fact:=eB1.reverseAux bAz
theorem aFf:xJ Tryz.prog gv bBa:=xJ.FN fit eU sZ sV eB1 aFe (by kernel_rfl)
def eB2:List Fact:=[(198,[.agg (iC [0,0,(-1)]),.agg (v3 0 0 2)],.agg (cR (-2) 1)),
 (198,[.agg (iC [0,0,(-1)]),.agg (v3 0 0 0)],.agg (cR 0 1)),
 (198,[.agg (iC [0,0,(-1)]),.agg (v3 0 2 0)],.agg (cR 0 1)),
 (198,[.agg (iC [0,0,(-1)]),.agg (v3 0 2 2)],.agg (cR (-2) 1)),
 (198,[.agg (iC [0,0,(-1)]),.agg (v3 2 0 0)],.agg (cR 0 1)),
 (198,[.agg (iC [0,0,(-1)]),.agg (v3 2 0 2)],.agg (cR (-2) 1)),
 (198,[.agg (iC [0,0,(-1)]),.agg (v3 2 2 0)],.agg (cR 0 1)),
 (198,[.agg (iC [0,0,(-1)]),.agg (v3 2 2 2)],.agg (cR (-2) 1)),
 (145,[.agg (iC [0,0,(-1)]),pts],.aU 0 108 [v3 0 0 0,v3 0 2 0,v3 2 0 0,v3 2 2 0])]
def bBb:List Fact:=eB2.reverseAux bBa
theorem aFg:xJ Tryz.prog gv bBb:=xJ.FN fit eU sZ sV eB2 aFf (by kernel_rfl)
def eC0:List Fact:=[(101,[.agg (cR 0 1)],.int .i64 0),
 (156,[.agg (v3 0 2 0),.agg (v3 0 0 0)],.agg (v3 0 2 0)),
 (156,[.agg (v3 2 0 0),.agg (v3 0 0 0)],.agg (v3 2 0 0)),
 (101,[.agg (cR (-4) 1)],.int .i64 (-1)),
 (205,[.agg ([.int .i64 0,.int .i64 1,.bool false]),.agg (v3 0 0 0),.agg (v3 0 2 0),.agg (v3 2 0 0)],.int .i64 (-1)),
 (156,[.agg (v3 2 2 0),.agg (v3 0 0 0)],.agg (v3 2 2 0)),
 (101,[.agg (cR 4 1)],.int .i64 1),
 (205,[.agg ([.int .i64 0,.int .i64 1,.bool false]),.agg (v3 0 0 0),.agg (v3 2 0 0),.agg (v3 2 2 0)],.int .i64 1),
 (156,[.agg (v3 0 0 0),.agg (v3 2 0 0)],.agg (v3 (-2) 0 0)),
 (156,[.agg (v3 0 2 0),.agg (v3 2 0 0)],.agg (v3 (-2) 2 0)),
 (205,[.agg ([.int .i64 0,.int .i64 1,.bool false]),.agg (v3 2 0 0),.agg (v3 0 0 0),.agg (v3 0 2 0)],.int .i64 (-1)),
 (156,[.agg (v3 2 0 0),.agg (v3 2 0 0)],.agg (v3 0 0 0))]
def bBc:List Fact:=eC0.reverseAux bBb
theorem aFh:xJ Tryz.prog gv bBc:=xJ.FN fit eU sZ sV eC0 aFg (by kernel_rfl)
def eC1:List Fact:=[(205,[.agg ([.int .i64 0,.int .i64 1,.bool false]),.agg (v3 2 0 0),.agg (v3 0 2 0),.agg (v3 2 0 0)],.int .i64 0),
 (156,[.agg (v3 2 2 0),.agg (v3 2 0 0)],.agg (v3 0 2 0)),
 (205,[.agg ([.int .i64 0,.int .i64 1,.bool false]),.agg (v3 2 0 0),.agg (v3 0 2 0),.agg (v3 2 2 0)],.int .i64 (-1)),
 (156,[.agg (v3 0 0 0),.agg (v3 2 2 0)],.agg (v3 (-2) (-2) 0)),
 (156,[.agg (v3 0 2 0),.agg (v3 2 2 0)],.agg (v3 (-2) 0 0)),
 (205,[.agg ([.int .i64 0,.int .i64 1,.bool false]),.agg (v3 2 2 0),.agg (v3 0 0 0),.agg (v3 0 2 0)],.int .i64 (-1)),
 (156,[.agg (v3 2 0 0),.agg (v3 2 2 0)],.agg (v3 0 (-2) 0)),
 (205,[.agg ([.int .i64 0,.int .i64 1,.bool false]),.agg (v3 2 2 0),.agg (v3 0 2 0),.agg (v3 2 0 0)],.int .i64 1),
 (156,[.agg (v3 2 2 0),.agg (v3 2 2 0)],.agg (v3 0 0 0)),
 (205,[.agg ([.int .i64 0,.int .i64 1,.bool false]),.agg (v3 2 2 0),.agg (v3 0 2 0),.agg (v3 2 2 0)],.int .i64 0),
 (156,[.agg (v3 0 0 0),.agg (v3 0 2 0)],.agg (v3 0 (-2) 0)),
 (156,[.agg (v3 0 2 0),.agg (v3 0 2 0)],.agg (v3 0 0 0))]
def bBd:List Fact:=eC1.reverseAux bBc
theorem aFi:xJ Tryz.prog gv bBd:=xJ.FN fit eU sZ sV eC1 aFh (by kernel_rfl)
def eC2:List Fact:=[(205,[.agg ([.int .i64 0,.int .i64 1,.bool false]),.agg (v3 0 2 0),.agg (v3 0 0 0),.agg (v3 0 2 0)],.int .i64 0),
 (156,[.agg (v3 2 0 0),.agg (v3 0 2 0)],.agg (v3 2 (-2) 0)),
 (205,[.agg ([.int .i64 0,.int .i64 1,.bool false]),.agg (v3 0 2 0),.agg (v3 0 0 0),.agg (v3 2 0 0)],.int .i64 1),
 (156,[.agg (v3 2 2 0),.agg (v3 0 2 0)],.agg (v3 2 0 0)),
 (205,[.agg ([.int .i64 0,.int .i64 1,.bool false]),.agg (v3 0 2 0),.agg (v3 0 0 0),.agg (v3 2 2 0)],.int .i64 1),
 (148,[.agg (iC [0,0,1]),.aU 0 108 [v3 0 0 0,v3 0 2 0,v3 2 0 0,v3 2 2 0]],.aU 0 108 [v3 0 0 0,v3 2 0 0,v3 2 2 0,v3 0 2 0])]
def bBe:List Fact:=eC2.reverseAux bBd
theorem aFj:xJ Tryz.prog gv bBe:=xJ.FN fit eU sZ sV eC2 aFi (by kernel_rfl)
def eD0:List Fact:=[(43,[.agg (iC [0,0,1])],.agg (v3 0 0 1)),
 (221,[.agg (cI 16384)],.agg (cI 128)),
 (154,[.agg (iC [0,0,1]),.int .i64 500],.jR [.agg (iC [1,0,0,0,1,0]),.agg (cR 1 2++cR 1 2)]),
 (43,[.agg (iC [1,0,0])],.agg (v3 1 0 0)),
 (155,[.agg (cR 1 2),.agg (v3 1 0 0)],.agg (cR 1 2++cR 0 1++cR 0 1)),
 (72,[.agg (v3 0 0 1),.agg (cR 1 2++cR 0 1++cR 0 1)],.agg (cR 1 2++cR 0 1++cR 1 1)),
 (156,[.agg (v3 0 0 1),.agg (cR 1 2++cR 0 1++cR 0 1)],.agg (cR (-1) 2++cR 0 1++cR 1 1)),
 (43,[.agg (iC [0,1,0])],.agg (v3 0 1 0)),
 (155,[.agg (cR 1 2),.agg (v3 0 1 0)],.agg (cR 0 1++cR 1 2++cR 0 1)),
 (72,[.agg (v3 0 0 1),.agg (cR 0 1++cR 1 2++cR 0 1)],.agg (cR 0 1++cR 1 2++cR 1 1)),
 (156,[.agg (v3 0 0 1),.agg (cR 0 1++cR 1 2++cR 0 1)],.agg (cR 0 1++cR (-1) 2++cR 1 1)),
 (106,[.agg (iC [0,0,1]),.int .i64 500],.jR [.aU 0 108 [cR 1 2++cR 0 1++cR 1 1,cR (-1) 2++cR 0 1++cR 1 1,cR 0 1++cR 1 2++cR 1 1,cR 0 1++cR (-1) 2++cR 1 1],.int .i64 0])]
def bBf:List Fact:=eD0.reverseAux bBe
theorem aFk:xJ Tryz.prog gv bBf:=xJ.FN fit eU sZ sV eD0 aFj (by kernel_rfl)
def eD1:List Fact:=[(107,[.aU 0 108 [v3 0 0 0,v3 2 0 0,v3 2 2 0,v3 0 2 0]],.bool true),
 (107,[.aU 0 108 [v3 1 1 2,v3 9 1 0]],.bool true),
 (76,[.agg ([.int .i64 10,.aU 0 6 [bA],.aU 0 7 [p0],.aU 0 6 [[.int .i64 0,.int .i64 1,.int .i64 0,.int .i64 0,.int .i64 1,.aU 0 108 [v3 0 0 0,v3 2 0 0,v3 2 2 0,v3 0 2 0]]],.aU 0 1 [iC [500]],.aU 0 218 [iC [1,0]++v3 1 1 2++v3 9 1 0],.aS])],.int .i64 0)]
def aRw:List Fact:=eD1.reverseAux bBf
theorem aFl:xJ Tryz.prog gv aRw:=xJ.FN fit eU sZ sV eD1 aFk (by kernel_rfl)
end Go.Proofs.YtndkpgceodimiaaGreatDoor
namespace Go.Proofs.YtndkpgceodimiaaGreatDoor
open Go Go.Av
def tc:{x // LA Tryz.prog DH false Tryz.f102=some x}:=⟨_,cL⟩
theorem aRp:kP Tryz.prog DH false 102 tc.1:=iZ Tryz.func102 (by kernel_rfl) tc.2
def td:{x // LA Tryz.prog DH false Tryz.f103=some x}:=⟨_,cL⟩
theorem aRq:kP Tryz.prog DH false 103 td.1:=iZ Tryz.func103 (by kernel_rfl) td.2
def aPv:{x // LA Tryz.prog DH false Tryz.f75=some x}:=⟨_,Mq⟩
theorem bAu:kP Tryz.prog DH false 75 aPv.1:=iZ Tryz.func75 (by kernel_rfl) aPv.2
def aPu:{x // LA Tryz.prog DH false Tryz.f45=some x}:=⟨_,Mq⟩
theorem bAp:kP Tryz.prog DH false 45 aPu.1:=iZ Tryz.func45 (by kernel_rfl) aPu.2
def aNz:{x // LA Tryz.prog DH false Tryz.f23=some x}:=⟨_,Mq⟩
theorem aYp:kP Tryz.prog DH false 23 aNz.1:=iZ Tryz.func23 (by kernel_rfl) aNz.2
def aPt:{x // LA Tryz.prog DH false Tryz.f42=some x}:=⟨_,cL⟩
theorem bAo:kP Tryz.prog DH false 42 aPt.1:=iZ Tryz.func42 (by kernel_rfl) aPt.2
def W5T:{x // LA Tryz.prog DH false Tryz.f5=some x}:=⟨_,cL⟩
theorem bFx:kP Tryz.prog DH false 5 W5T.1:=iZ Tryz.func5 (by kernel_rfl) W5T.2
def aNh:{x // LA Tryz.prog DH false Tryz.f20=some x}:=⟨_,cL⟩
theorem aXx:kP Tryz.prog DH false 20 aNh.1:=iZ Tryz.func20 (by kernel_rfl) aNh.2
def aPs:{x // LA Tryz.prog DH false Tryz.f39=some x}:=⟨_,cL⟩
theorem bAn:kP Tryz.prog DH false 39 aPs.1:=iZ Tryz.func39 (by kernel_rfl) aPs.2
end Go.Proofs.YtndkpgceodimiaaGreatDoor
namespace Go.Proofs.YtndkpgceodimiaaGreatDoor
open Go Go.Av Go.aI
def bBw:FT:=.node 42 (.node 23 (.node 20 (.leaf 5 W5T.1) (.leaf 20 aNh.1)) (.node 39 (.leaf 23 aNz.1) (.leaf 39 aPs.1))) (.node 75 (.node 45 (.leaf 42 aPt.1) (.leaf 45 aPu.1)) (.node 102 (.leaf 75 aPv.1) (.node 103 (.leaf 102 tc.1) (.leaf 103 td.1))))
theorem aBk:bBw.rn fun f F=>∃mu,kP Tryz.prog DH mu f F:=⟨⟨⟨⟨_,bFx⟩,⟨_,aXx⟩⟩,⟨⟨_,aYp⟩,⟨_,bAn⟩⟩⟩,⟨⟨⟨_,bAo⟩,⟨_,bAp⟩⟩,⟨⟨_,bAu⟩,⟨⟨_,aRp⟩,⟨_,aRq⟩⟩⟩⟩⟩
def bHe:MH:=fun _ _ _=>none
theorem aGo:LV Tryz.prog DH bHe:=fun _ _ _ _ _ h=>by cases h
theorem aRy:xJ Tryz.prog DH aRw:=aTd aFl (by kernel_rfl)
def eT:List Fact:=[(102,[.agg (p0),.agg ([ZZ])],.agg (cR 0 1)),
 (103,[.agg (p0),.agg ([ZZ])],.aU 0 108 [v3 0 0 0,v3 2 0 0,v3 2 2 0,v3 0 2 0]),
 (75,[.aU 0 6 [bA],.aU 0 7 [p0]],.jR [.aU 0 6 [[.int .i64 0,.int .i64 1,.int .i64 0,.int .i64 0,.int .i64 1,.aU 0 108 [v3 0 0 0,v3 2 0 0,v3 2 2 0,v3 0 2 0]]],.int .i64 0]),
 (5,[],.bool true)]
theorem aRx:xJ Tryz.prog DH (eT.reverseAux aRw):=xJ.FN aTp Xm aBk aGo eT aRy (by kernel_rfl)
theorem oi (H:aA):St 5 [] H (.ret (.bool true)) H:=aRx _ Ax H
end Go.Proofs.YtndkpgceodimiaaGreatDoor
