/-
  Part of the proof of statement 14
-/
import Derived.Test.YtgggiembljfnhaaGreatDoorC07
import Derived.Test.YtgggiembljfnhaaGreatDoorC19
import Derived.Test.YtgggiembljfnhaaGreatDoorC05
import Derived.Test.YtgggiembljfnhaaGreatDoorC28
import Derived.Test.YtgggiembljfnhaaGreatDoorC25
import Derived.Test.YtgggiembljfnhaaGreatDoorC12
import Derived.Test.YtgggiembljfnhaaGreatDoorC14
import Derived.Test.YtgggiembljfnhaaGreatDoorC16
import Derived.Test.YtgggiembljfnhaaGreatDoorC20
import Derived.Test.YtgggiembljfnhaaGreatDoorC22
import Derived.Test.YtgggiembljfnhaaGreatDoorC24
import Derived.Test.YtgggiembljfnhaaGreatDoorC18
import Derived.Test.YtgggiembljfnhaaGreatDoorC26
set_option maxRecDepth 1000000
set_option maxHeartbeats 16000000
set_option linter.unusedVariables false
set_option linter.unusedSimpArgs false
namespace Go.Proofs.YtgggiembljfnhaaGreatDoor
open Go Go.Av
def wx:CW Tryz.f181:=⟨_,cX⟩
theorem aGa:Fi 181 wx:=cN Tryz.func181 wx
def yi:CW Tryz.f237:=⟨_,cX⟩
theorem aHh:Fi 237 yi:=cN Tryz.func237 yi
def yb:CW Tryz.f232:=⟨_,cX⟩
theorem aHc:Fi 232 yb:=cN Tryz.func232 yb
def wo:CW Tryz.f178:=⟨_,cX⟩
theorem aFy:Fi 178 wo:=cN Tryz.func178 wo
def uv:CW Tryz.f111:=⟨_,xV⟩
theorem aEs:Fi 111 uv:=cN Tryz.func111 uv
def vr:CW Tryz.f141:=⟨_,cX⟩
theorem aFi:Fi 141 vr:=cN Tryz.func141 vr
def vq:CW Tryz.f140:=⟨_,cX⟩
theorem aFh:Fi 140 vq:=cN Tryz.func140 vq
def vm:CW Tryz.f133:=⟨_,cX⟩
theorem aFe:Fi 133 vm:=cN Tryz.func133 vm
def uu:CW Tryz.f109:=⟨_,cX⟩
theorem aEr:Fi 109 uu:=cN Tryz.func109 uu
def y7:CW Tryz.f277:=⟨_,cX⟩
theorem aHt:Fi 277 y7:=cN Tryz.func277 y7
def zk:CW Tryz.f323:=⟨_,cX⟩
theorem aIg:Fi 323 zk:=cN Tryz.func323 zk
def W70:CW Tryz.f70:=⟨_,cX⟩
theorem aNd:Fi 70 W70:=cN Tryz.func70 W70
def wu:CW Tryz.f180:=⟨_,cX⟩
theorem aFz:Fi 180 wu:=cN Tryz.func180 wu
def wh:CW Tryz.f174:=⟨_,cX⟩
theorem aFu:Fi 174 wh:=cN Tryz.func174 wh
def wi:CW Tryz.f175:=⟨_,cX⟩
theorem aFv:Fi 175 wi:=cN Tryz.func175 wi
def ur:CW Tryz.f108:=⟨_,cX⟩
theorem aEq:Fi 108 ur:=cN Tryz.func108 ur
def vg:CW Tryz.f130:=⟨_,cX⟩
theorem aFb:Fi 130 vg:=cN Tryz.func130 vg
def vh:CW Tryz.f131:=⟨_,xV⟩
theorem aFc:Fi 131 vh:=cN Tryz.func131 vh
def wj:CW Tryz.f176:=⟨_,cX⟩
theorem aFw:Fi 176 wj:=cN Tryz.func176 wj
def x8:CW Tryz.f230:=⟨_,xV⟩
theorem aHa:Fi 230 x8:=cN Tryz.func230 x8
def zh:CW Tryz.f294:=⟨_,cX⟩
theorem aId:Fi 294 zh:=cN Tryz.func294 zh
def vn:CW Tryz.f134:=⟨_,cX⟩
theorem aFf:Fi 134 vn:=cN Tryz.func134 vn
def yr:CW Tryz.f255:=⟨_,cX⟩
theorem aHo:Fi 255 yr:=cN Tryz.func255 yr
def W26:CW Tryz.f26:=⟨_,cX⟩
theorem aLy:Fi 26 W26:=cN Tryz.func26 W26
def W72:{x // GB Tryz.prog gv true Tryz.f72=some x}:=⟨_,cX⟩
theorem aNe:iM Tryz.prog gv true 72 W72.1:=gJ Tryz.func72 (by kernel_rfl) W72.2
def W74:{x // GB Tryz.prog gv true Tryz.f74=some x}:=⟨_,cX⟩
theorem aNg:iM Tryz.prog gv true 74 W74.1:=gJ Tryz.func74 (by kernel_rfl) W74.2
def W73:{x // GB Tryz.prog gv true Tryz.f73=some x}:=⟨_,cX⟩
theorem aNf:iM Tryz.prog gv true 73 W73.1:=gJ Tryz.func73 (by kernel_rfl) W73.2
def yc:CW Tryz.f233:=⟨_,cX⟩
theorem aHd:Fi 233 yc:=cN Tryz.func233 yc
def yh:CW Tryz.f236:=⟨_,cX⟩
theorem aHg:Fi 236 yh:=cN Tryz.func236 yh
def yd:CW Tryz.f234:=⟨_,cX⟩
theorem aHe:Fi 234 yd:=cN Tryz.func234 yd
def zl:CW Tryz.f325:=⟨_,xV⟩
theorem aIh:Fi 325 zl:=cN Tryz.func325 zl
def zf:CW Tryz.f292:=⟨_,xV⟩
theorem aIb:Fi 292 zf:=cN Tryz.func292 zf
def zg:CW Tryz.f293:=⟨_,cX⟩
theorem aIc:Fi 293 zg:=cN Tryz.func293 zg
def ze:CW Tryz.f291:=⟨_,cX⟩
theorem aIa:Fi 291 ze:=cN Tryz.func291 ze
def xc:CW Tryz.f189:=⟨_,cX⟩
theorem aGe:Fi 189 xc:=cN Tryz.func189 xc
def ya:CW Tryz.f231:=⟨_,cX⟩
theorem aHb:Fi 231 ya:=cN Tryz.func231 ya
def ym:CW Tryz.f252:=⟨_,xV⟩
theorem aHl:Fi 252 ym:=cN Tryz.func252 ym
def yp:CW Tryz.f253:=⟨_,cX⟩
theorem aHm:Fi 253 yp:=cN Tryz.func253 yp
def yq:CW Tryz.f254:=⟨_,cX⟩
theorem aHn:Fi 254 yq:=cN Tryz.func254 yq
def zc:CW Tryz.f289:=⟨_,cX⟩
theorem aHy:Fi 289 zc:=cN Tryz.func289 zc
def zi:CW Tryz.f301:=⟨_,cX⟩
theorem aIe:Fi 301 zi:=cN Tryz.func301 zi
def zb:CW Tryz.f285:=⟨_,cX⟩
theorem aHx:Fi 285 zb:=cN Tryz.func285 zb
end Go.Proofs.YtgggiembljfnhaaGreatDoor
namespace Go.Proofs.YtgggiembljfnhaaGreatDoor
open Go Go.Av Go.DL
def aAc:AV->Option Nat
 |.int .u32 n=>match Nat.blt n.natAbs W&&decide ((n.natAbs:Int)=n) with
  |true=>some n.natAbs
  |false=>none
 |_=>none
theorem e9 {x:AV} {a:Nat} (h:aAc x=some a):x=.int .u32 (a:Nat)/\a<W:=by
 unfold aAc at h;split at h
 . split at h
   . rename_i n hc;cases h;simp only[Aj,Bj] at hc;exact⟨by rw[hc.2],by simpa using hc.1⟩
   cases h
 cases h
def ey:List AV->Option (List Nat)
 |[]=>some []
 |x::r=>match aAc x,ey r with
  |some a,some l=>some (a::l)
  |_,_=>none
theorem TZ:∀{v:List AV} {l:List Nat},ey v=some l->v=wC l/\∀d∈l,d<W
 |[],l,h=>by cases h;exact⟨rfl,fun d hd=>by cases hd⟩
 |x::r,l,h=>by
  simp only[ey] at h;split at h
  . rename_i a l' ha lY;cases h;obtain⟨h1,h2⟩:=TZ lY;obtain⟨h3,h4⟩:=e9 ha;refine⟨by rw[h1,h3];rfl,fun d hd=>?_⟩
    rcases Ah.1 hd with rfl|hd
    . exact h4
    exact h2 d hd
  cases h
def JN:List AV->Option (Option Int)
 |.bool b::.bool n::r=>match ey r with
  |some l=>match Nat.beq l.length 16 with
   |true=>some (Go.Av.Lf b n l)
   |false=>none
  |none=>none
 |_=>none
theorem pL {v:List AV} {x:Option Int} (h:JN v=some x):lS v x:=by
 unfold JN at h;split at h
 . rename_i b n r;split at h
   . rename_i l hl;split at h
     . rename_i hc;cases h;obtain⟨h1,h2⟩:=TZ hl;exact⟨b,n,l,⟨Au hc,h2⟩,by rw[h1],rfl⟩
     cases h
   cases h
 cases h
def Vy (g:Option Int->AV):List AV->Option AV
 |[.agg a]=>match JN a with
  |some x=>some (g x)
  |none=>none
 |_=>none
def Vz (g:Option Int->Option Int->AV):List AV->Option AV
 |[.agg a,.agg b]=>match JN a,JN b with
  |some x,some y=>some (g x y)
  |_,_=>none
 |_=>none
theorem HU {g:Option Int->AV} {f:FuncId} (hS:∀a x,lS a x->∀H,Sound Tryz.prog gv f [.agg a] H (.ret (g x)) H) {args:List AV} {v:AV} (h:Vy g args=some v) (H:aA):Sound Tryz.prog gv f args H (.ret v) H:=by
 unfold Vy at h;split at h
 . rename_i a;split at h
   . rename_i x hx;cases h;exact hS a x (pL hx) H
   cases h
 cases h
theorem HV {g:Option Int->Option Int->AV} {f:FuncId} (hS:∀a b x y,lS a x->lS b y->∀H,Sound Tryz.prog gv f [.agg a,.agg b] H (.ret (g x y)) H) {args:List AV} {v:AV} (h:Vz g args=some v) (H:aA):Sound Tryz.prog gv f args H (.ret v) H:=by
 unfold Vz at h;split at h
 . rename_i a b;split at h
   . rename_i x y hx hy;cases h;exact hS a b x y (pL hx) (pL hy) H
   cases h
 cases h
def ZA:List AV->Option AV
 |[.int .i64 z]=>match decide (-2^63<=z)&&decide (z<2^63) with
  |true=>some (.agg (cI z))
  |false=>none
 |_=>none
theorem ZB {args:List AV} {v:AV} (h:ZA args=some v) (H:aA):Sound Tryz.prog gv 128 args H (.ret v) H:=by
 unfold ZA at h;split at h
 . rename_i z;split at h
   . rename_i hc;cases h;simp only[Aj,Bj] at hc;exact IQ hc.1 hc.2 H
   cases h
 cases h
def aCj (f:FuncId) (args:List AV):Option AV:=
 match Nat.beq f 128 with
 |true=>ZA args
 |false=>match Nat.beq f 172 with
 |true=>Vz (fun x y=>.agg (cO (RU x y))) args
 |false=>match Nat.beq f 281 with
 |true=>Vz (fun x y=>.agg (cO (RU x (SY y)))) args
 |false=>match Nat.beq f 173 with
 |true=>Vz (fun x y=>.agg (cO (SX x y))) args
 |false=>match Nat.beq f 222 with
 |true=>Vy (fun x=>.agg (cO (SY x))) args
 |false=>match Nat.beq f 226 with
 |true=>Vy (fun x=>.agg (cO (aCz x))) args
 |false=>match Nat.beq f 177 with
 |true=>Vy (fun x=>.int .i64 (uM x)) args
 |false=>match Nat.beq f 126 with
 |true=>Vz (fun x y=>.int .i64 (PB x y)) args
 |false=>match Nat.beq f 215 with
 |true=>Vy (fun x=>.eZ [.int .i64 (nW x).1,.bool (nW x).2]) args
 |false=>none
theorem kz {f:FuncId} {args:List AV} {v:AV} (h:aCj f args=some v) (H:aA):Sound Tryz.prog gv f args H (.ret v) H:=by
 unfold aCj at h;split at h
 . rename_i hf;obtain rfl:=Au hf;exact ZB h H
 split at h
 . rename_i hf;obtain rfl:=Au hf;exact HV (fun a b x y ha hb H=>XA ha hb H) h H
 split at h
 . rename_i hf;obtain rfl:=Au hf;exact HV (fun a b x y ha hb H=>uh ha hb H) h H
 split at h
 . rename_i hf;obtain rfl:=Au hf;exact HV (fun a b x y ha hb H=>uf ha hb H) h H
 split at h
 . rename_i hf;obtain rfl:=Au hf;exact HU (fun a x ha H=>RO ha H) h H
 split at h
 . rename_i hf;obtain rfl:=Au hf;exact HU (fun a x ha H=>tu ha H) h H
 split at h
 . rename_i hf;obtain rfl:=Au hf;exact HU (fun a x ha H=>HK ha H) h H
 split at h
 . rename_i hf;obtain rfl:=Au hf;exact HV (fun a b x y ha hb H=>tw ha hb H) h H
 split at h
 . rename_i hf;obtain rfl:=Au hf;exact HU (fun a x ha H=>IT ha H) h H
 cases h
attribute [local congr] aP aJ aK aH aU aM aL aD
attribute [local irreducible] FC bM dX
theorem Qp {z:Int} (h:z.natAbs<2^64):bG z.natAbs 1*4294967296+bG z.natAbs 0=z.natAbs:=by
 have hW:W=4294967296:=rfl;have h2:bG z.natAbs 0=z.natAbs%W:=by simp[bG]
 have h3:bG z.natAbs 1=z.natAbs / W:=by unfold bG;rw[Nat.pow_one,hW,Bz (by omega)]
 rw[h2,h3,Cn];exact Em _ _
theorem Zh {a:Nat} (h:a<2^64):sz a<=2:=by
 rcases IA 16 a with h0|h0
 . unfold sz;omega
 refine Nat.not_lt.1 fun h3=>h0 ?_;unfold sz at h3;unfold bG;have :W^2<=W^(UW 16 a -1):=Fa (by decide) (by omega);have hW:W^2=2^64:=rfl;rw[Dh (by omega)];rfl
theorem DK {a b:List AV} {x y:Int} (ha:lS a (some x)) (hb:lS b (some y)) (hx:x.natAbs<2^64) (hy:y.natAbs<2^64) (H:aA):
 Sound Tryz.prog gv 170 [.agg a,.agg b] H (.ret (.agg (cI (Int.gcd x y)))) H:=by
 refine Sp aFr (by simp only[sf,ha.free,hb.free]) (by simp only[sf,qR]) ?_ H;unfold wc;dsimp only;have hg:=vQ ha hb;have s1:=CX x.natAbs;have s2:=CX y.natAbs;have la:=ha.len;have lb:=hb.len;obtain⟨rfl,hz⟩:=ha.some;obtain⟨rfl,hz'⟩:=hb.some;refine aB fun K hK=>?_;simp only[↓zP,zG,Nat.reduceLT,Nat.reduceEqDiff,Nat.reduceAdd,zI];apply hK;clear hK K;refine aB fun K hK=>?_;simp only[↓zP,zG,Nat.reduceLT,Nat.reduceEqDiff,Nat.reduceAdd,zI,oL la,oL lb];refine cT (hg _) ?_;simp only[↓zP,zG,Nat.reduceLT,zI,Br,Cx];apply hK;clear hK K;have Kz:(AV.bool false::AV.bool false::wC zs).length=18:=by simp[eM];rfl
 have rA:∀z,(cI z).length=18:=fun z=>kJ z;generalize hX:(((aA.mk 0 .nil).alloc _).alloc _).alloc _=HA;have g0:HA.get 0=some (.cells (cI x) false):=by subst hX;simp only[zI,Nat.reduceAdd,Nat.reduceEqDiff]
 have g1:HA.get 1=some (.cells (cI y) false):=by subst hX;simp only[zI,Nat.reduceAdd,Nat.reduceEqDiff]
 have g2:HA.get 2=some (.cells (AV.bool false::AV.bool false::wC zs) false):=by subst hX;simp only[zI,Nat.reduceAdd,Nat.reduceEqDiff]
 clear hX;refine eS fun f hf=>?_;have f2:f 2=.ref 0 0:=by subst hf;simp only[zB,Nat.reduceEqDiff]
 have f3:f 3=.ref 1 0:=by subst hf;simp only[zB,Nat.reduceEqDiff]
 have f4:f 4=.ref 2 0:=by subst hf;simp only[zB,Nat.reduceEqDiff]
 clear hf;have lx:=iL (.aZ x.natAbs);have ly:=iL (.aZ y.natAbs);have dx:(cI x).drop 2=wC (aZ 16 x.natAbs):=rfl;have dy:(cI y).drop 2=wC (aZ 16 y.natAbs):=rfl;refine aB fun K hK=>?_;simp only[↓zP,zG,Nat.reduceLT,Nat.reduceEqDiff,Nat.reduceAdd,zI,Nat.reduceLeDiff,f2,g0,oL la,dx,lx];refine cT (s1 _) ?_;have e1:decide (((sz x.natAbs:Nat):Int)<=2)=true:=Bk (by have :=Zh hx;omega);have e2:decide (((sz y.natAbs:Nat):Int)<=2)=true:=Bk (by have :=Zh hy;omega);simp only[↓zP,zG,Nat.reduceLT,Nat.reduceEqDiff,Nat.reduceAdd,zI,f3,g1,oL lb,dy,ly,e1];refine cT (s2 _) ?_;simp only[↓zP,zG,Nat.reduceLT,Nat.reduceEqDiff,zI,e2];refine bK (by decide) ?_;have h0:=iJ x.natAbs 0;have h1:=iJ x.natAbs 1;have k0:=iJ y.natAbs 0;have k1:=iJ y.natAbs 1;have hW:W=4294967296:=rfl;have p0:(cI x).getD 2 aC=.int .u32 (bG x.natAbs 0:Nat):=iZ (a:=x.natAbs) (i:=0) (by decide);have p1:(cI x).getD 3 aC=.int .u32 (bG x.natAbs 1:Nat):=iZ (a:=x.natAbs) (i:=1) (by decide);have q0:(cI y).getD 2 aC=.int .u32 (bG y.natAbs 0:Nat):=iZ (a:=y.natAbs) (i:=0) (by decide);have q1:(cI y).getD 3 aC=.int .u32 (bG y.natAbs 1:Nat):=iZ (a:=y.natAbs) (i:=1) (by decide);have w0:IntKind.u64.wrap ((bG x.natAbs 0:Nat):Int)=(bG x.natAbs 0:Nat):=pD (by omega) (.inl rfl);have w1:IntKind.u64.wrap ((bG x.natAbs 1:Nat):Int)=(bG x.natAbs 1:Nat):=pD (by omega) (.inl rfl);have v0:IntKind.u64.wrap ((bG y.natAbs 0:Nat):Int)=(bG y.natAbs 0:Nat):=pD (by omega) (.inl rfl);have v1:IntKind.u64.wrap ((bG y.natAbs 1:Nat):Int)=(bG y.natAbs 1:Nat):=pD (by omega) (.inl rfl);have ox:=aCg h1 h0;have oy:=aCg k1 k0;rw[Qp hx] at ox;rw[Qp hy] at oy;simp only[↓zP,zG,Nat.reduceLT,Nat.reduceEqDiff,Nat.reduceAdd,zD,reduceCtorEq,zI,Nat.reduceLeDiff,Int.reduceLT,f2,f3,g0,g1,oL la,oL lb,TT,p0,p1,q0,q1,w0,w1,v0,v1,ox,oy];refine eS fun f' hf=>?_;have Rs:f' 4=.ref 2 0:=by subst hf;simp only[zB,Nat.reduceEqDiff];exact f4
 have f5:f' 5=.int .u64 (x.natAbs:Nat):=by subst hf;simp only[zB,Nat.reduceEqDiff]
 have f6:f' 6=.int .u64 (y.natAbs:Nat):=by subst hf;simp only[zB]
 clear hf f2 f3 f4;refine aS (jI [5,6] (fun m vs H'=>H'=HA/\∃a b:Nat,vs=[.int .u64 (a:Nat),.int .u64 (b:Nat)]/\a<2^64/\b<2^64/\m=b/\Nat.gcd a b=Nat.gcd x.natAbs y.natAbs) y.natAbs (by rfl) ?_ ?_)
 . exact⟨rfl,_,_,by simp only[sm,f5,f6],hx,hy,rfl,rfl⟩
 rintro b f H1 hk ⟨rfl,a,_,hv,OX,hy1,rfl,hgc⟩;simp only[sm,Am,Bs] at hv;obtain⟨h5,h6⟩:=hv;have f4:f 4=.ref 2 0:=by rw[hk 4 rfl];exact Rs
 by_cases ou:b=0
 . subst ou;have e0:(((0:Nat):Int) != 0)=false:=rfl;have ea:a=Int.gcd x y:=by rw[Nat.gcd_zero_right] at hgc;exact hgc
   have l2:=MT OX;have hl:=RN.aZ a;have q0:((a%W:Nat):Int)=(bG a 0:Nat):=(by simp[bG]);have q1:((a / W%W:Nat):Int)=(bG a 1:Nat):=(by simp[bG]);have Vh:1<=(List.drop 1 (wC zs)).length:=(by decide);have hse:=lM (n:=false) (m:=a) (Gr OX (by decide)) (z:=(a:Int)) rfl;simp only[↓zP,zG,Nat.reduceLT,Nat.reduceEqDiff,Nat.reduceAdd,zI,Nat.reduceLeDiff,Int.reduceLT,h5,h6,e0,TM,JR,q0,q1,l2,Vh];refine cT (hse _) ?_;simp only[↓zP,zG,Nat.reduceEqDiff,zI,f4,g2,rA,Kz,oL Kz];refine⟨rfl,_,by simp only[↓zP,zR,Nat.reduceEqDiff,f4,g2,rA,oL (rA _)];rfl,?_⟩;rw[ea];rfl
 have e0:(((b:Nat):Int) != 0)=true:=El.2 (by omega);have aKe:¬((b:Nat):Int)=0:=by omega
 simp only[↓zP,zG,Nat.reduceLT,zI,h6,e0];refine aS ?_;refine bK (by decide) ?_;simp only[↓zP,zG,Nat.reduceLT,Nat.reduceEqDiff,Nat.reduceAdd,zD,reduceCtorEq,zI,h5,h6,aKe];have ht:Int.tmod (a:Int) (b:Int)=((a%b:Nat):Int):=rfl;have eW:a%b<b:=Dp _ (by omega);have hwm:IntKind.u64.wrap ((a%b:Nat):Int)=((a%b:Nat):Int):=pD (by omega) (.inl rfl);rw[ht];exact⟨_,eW,b,a%b,rfl,hy1,by omega,rfl,by rw[Nat.gcd_comm,<-Nat.gcd_rec,Nat.gcd_comm,hgc]⟩
def yU (x y:Int):Int×Int:=if(!decide (x.tmod y=0)&&(decide (x.tmod y<0) != decide (y<0)))=true then(x.tdiv y -1,x.tmod y+y) else(x.tdiv y,x.tmod y)
theorem tdiv_le (x y:Int):(x.tdiv y).natAbs<=x.natAbs:=by rw[Int.natAbs_tdiv];exact Ir _ _
theorem me (x:Int) {y:Int} (h:y≠0):(x.tmod y).natAbs<y.natAbs:=by rw[Int.natAbs_tmod];exact Dp _ (by omega)
theorem yB {a b:List AV} {x y:Int} (ha:lS a (some x)) (hb:lS b (some y)) (iw: -2^63<x) (OX:x<2^63) (bb: -2^63<y) (hy1:y<2^63) (hy:y≠0) (H:aA):
 Sound Tryz.prog gv 227 [.agg a,.agg b] H (.ret (.eZ [.agg (cI (yU x y).1),.agg (cI (yU x y).2)])) H:=by
 refine Sp aGx (by simp only[sf,ha.free,hb.free]) (by simp only[sf,qR]) ?_ H;unfold xy;dsimp only;have hg:=vQ ha hb;have hs:=HK hb;have h1:=IT ha;have h2:=IT hb;have e1:nW (some x)=(x,true):=by simp only[nW];rw[if_pos (by omega)]
 have e2:nW (some y)=(y,true):=by simp only[nW];rw[if_pos (by omega)]
 rw[e1] at h1;rw[e2] at h2
 have hsg:(uM (some y)==0)=false:=by simp only[uM];split<;>(try split)<;>first|rfl|omega
 have hq:=tdiv_le x y;have hr:=me x hy;have wq:IntKind.i64.wrap (x.tdiv y)=x.tdiv y:=wrap_i64 (by omega) (by omega);have wr:IntKind.i64.wrap (x.tmod y)=x.tmod y:=wrap_i64 (by omega) (by omega);have la:=ha.len;have lb:=hb.len;have nx:(x != -9223372036854775808)=true:=El.2 (by omega);have ny:(y != -9223372036854775808)=true:=El.2 (by omega);refine aB fun K hK=>?_;simp only[↓zP,zG,seval,zI];apply hK;clear hK K;have Kz:(AV.bool false::AV.bool false::wC zs).length=18:=by simp[eM];rfl
 have rA:∀z,(cI z).length=18:=fun z=>kJ z;generalize hX:((((aA.mk 0 .nil).alloc _).alloc _).alloc _).alloc _=HA;have g0:HA.get 0=some (.cells a false):=by subst hX;simp only[zI,seval]
 have g1:HA.get 1=some (.cells b false):=by subst hX;simp only[zI,seval]
 have g2:HA.get 2=some (.cells (AV.bool false::AV.bool false::wC zs) false):=by subst hX;simp only[zI,seval]
 have g3:HA.get 3=some (.cells (AV.bool false::AV.bool false::wC zs) false):=by subst hX;simp only[zI,seval]
 clear hX;refine aB fun K hK=>?_;simp only[↓zP,zG,seval,zI,g0,g1,oL la,oL lb];refine cT (hg _) ?_;simp only[↓zP,zG,seval,zI,g1,oL lb,Br,Cx];refine cT (hs _) ?_;simp only[↓zP,zG,seval,hsg];apply hK;clear hK K;refine aB fun K hK=>?_;refine aB fun K2 bO=>?_;simp only[↓zP,zG,seval,zI,g0,oL la];refine cT (h1 _) ?_;simp only[↓zP,zG,seval,zI];apply bO;clear bO K2;clear hK;refine eS fun f hf=>?_;have f3:f 3=.ref 1 0:=by subst hf;simp only[zB,seval]
 have f4:f 4=.ref 2 0:=by subst hf;simp only[zB,seval]
 have f5:f 5=.ref 3 0:=by subst hf;simp only[zB,seval]
 have f6:f 6=.int .i64 x:=by subst hf;simp only[zB,seval]
 have f7:f 7=.bool true:=by subst hf;simp only[zB,seval]
 clear hf;refine aB fun K2 bO=>?_;simp only[↓zP,zG,seval,f6,f7,nx];apply bO;clear bO K2;simp only[↓zP,zG,seval,zI,f3,g1,oL lb];refine cT (h2 _) ?_;simp only[↓zP,zG,seval,zI,ny];refine eS fun f' hf=>?_;have Rs:f' 4=.ref 2 0:=by subst hf;simp only[zB,seval];exact f4
 have Rt:f' 5=.ref 3 0:=by subst hf;simp only[zB,seval];exact f5
 have f6':f' 6=.int .i64 x:=by subst hf;simp only[zB,seval];exact f6
 have f8':f' 8=.int .i64 y:=by subst hf;simp only[zB,seval]
 clear hf f3 f4 f5 f6 f7;refine bK (by decide) ?_
 have Vi:yU x y=if(!decide (x.tmod y=0)&&(decide (x.tmod y<0) != decide (y<0)))=true then(x.tdiv y -1,x.tmod y+y) else(x.tdiv y,x.tmod y):=rfl
 have oq:=IQ (z:=x.tdiv y) (by omega) (by omega);have or:=IQ (z:=x.tmod y) (by omega) (by omega);have oq1:∀H,Sound Tryz.prog gv 128 [.int .i64 (x.tdiv y -1)] H (.ret (.agg (cI (x.tdiv y -1)))) H:=IQ (by omega) (by omega);have wq1:IntKind.i64.wrap (x.tdiv y -1)=x.tdiv y -1:=wrap_i64 (by omega) (by omega);by_cases c0:x.tmod y=0
 . have hn:(x.tmod y != 0)=false:=by simp[c0]
   rw[Bk c0] at Vi;simp only[↓zP,zG,seval,zD,reduceCtorEq,zI,f6',f8',hy,wq,hn];refine cT (oq _) ?_;simp only[↓zP,zG,seval];refine cT (or _) ?_;simp only[↓zP,zG,seval,zI,Rs,Rt,g2,g3,rA,Kz,oL Kz];refine⟨rfl,_,by simp only[↓zP,zR,seval,Rs,Rt,rA,oL (rA _)];rfl,?_⟩;rw[Vi];rfl
 have hn:(x.tmod y != 0)=true:=El.2 c0;rw[As c0] at Vi;by_cases cA:x.tmod y<0
 . have hA:=Bk cA;rw[hA] at Vi;by_cases cB:y<0
   . have hB:=Bk cB;rw[hB] at Vi;simp only[↓zP,zG,seval,zD,reduceCtorEq,zI,f6',f8',hy,wq,hn,hA,hB];refine cT (oq _) ?_;simp only[↓zP,zG,seval];refine cT (or _) ?_;simp only[↓zP,zG,seval,zI,Rs,Rt,g2,g3,rA,Kz,oL Kz];refine⟨rfl,_,by simp only[↓zP,zR,seval,Rs,Rt,rA,oL (rA _)];rfl,?_⟩;rw[Vi];rfl
   have hB:=As cB;rw[hB] at Vi;have or1:∀H,Sound Tryz.prog gv 128 [.int .i64 (x.tmod y+y)] H (.ret (.agg (cI (x.tmod y+y)))) H:=IQ (by omega) (by omega);have wr1:IntKind.i64.wrap (x.tmod y+y)=x.tmod y+y:=wrap_i64 (by omega) (by omega);simp only[↓zP,zG,seval,zD,reduceCtorEq,zI,f6',f8',hy,wq,hn,hA,hB,wq1,wr1];refine cT (oq1 _) ?_;simp only[↓zP,zG,seval];refine cT (or1 _) ?_;simp only[↓zP,zG,seval,zI,Rs,Rt,g2,g3,rA,Kz,oL Kz];refine⟨rfl,_,by simp only[↓zP,zR,seval,Rs,Rt,rA,oL (rA _)];rfl,?_⟩;rw[Vi];rfl
 have hA:=As cA;rw[hA] at Vi;by_cases cB:y<0
 . have hB:=Bk cB;rw[hB] at Vi;have or1:∀H,Sound Tryz.prog gv 128 [.int .i64 (x.tmod y+y)] H (.ret (.agg (cI (x.tmod y+y)))) H:=IQ (by omega) (by omega);have wr1:IntKind.i64.wrap (x.tmod y+y)=x.tmod y+y:=wrap_i64 (by omega) (by omega);simp only[↓zP,zG,seval,zD,reduceCtorEq,zI,f6',f8',hy,wq,hn,hA,hB,wq1,wr1];refine cT (oq1 _) ?_;simp only[↓zP,zG,seval];refine cT (or1 _) ?_;simp only[↓zP,zG,seval,zI,Rs,Rt,g2,g3,rA,Kz,oL Kz];refine⟨rfl,_,by simp only[↓zP,zR,seval,Rs,Rt,rA,oL (rA _)];rfl,?_⟩;rw[Vi];rfl
 have hB:=As cB;rw[hB] at Vi;simp only[↓zP,zG,seval,zD,reduceCtorEq,zI,f6',f8',hy,wq,hn,hA,hB];refine cT (oq _) ?_;simp only[↓zP,zG,seval];refine cT (or _) ?_;simp only[↓zP,zG,seval,zI,Rs,Rt,g2,g3,rA,Kz,oL Kz];refine⟨rfl,_,by simp only[↓zP,zR,seval,Rs,Rt,rA,oL (rA _)];rfl,?_⟩;rw[Vi];rfl
theorem DN {a b:List AV} {x y:Int} (ha:lS a (some x)) (hb:lS b (some y)) (iw: -2^63<x) (OX:x<2^63) (bb: -2^63<y) (hy1:y<2^63) (hy:y≠0) (H:aA):
 Sound Tryz.prog gv 171 [.agg a,.agg b] H (.ret (.agg (cI (yU x y).1))) H:=by
 refine Sp aFs (by simp only[sf,ha.free,hb.free]) (by simp only[sf,qR]) ?_ H;unfold we;dsimp only;have hd:=yB ha hb iw OX bb hy1 hy;have la:=ha.len;have lb:=hb.len;have Kz:(AV.bool false::AV.bool false::wC zs).length=18:=by simp[eM];rfl
 have rA:∀z,(cI z).length=18:=fun z=>kJ z;generalize yU x y=d at *;refine aB fun K hK=>?_;simp only[↓zP,zG,seval,zI];apply hK;clear hK K;simp only[↓zP,zG,seval,zI,oL la,oL lb];refine cT (hd _) ?_;simp only[↓zP,zG,seval,zI,rA,Kz,oL Kz,oL (rA _)];refine⟨rfl,_,by simp only[↓zP,zR,seval,rA,oL (rA _)];rfl,?_⟩;rfl
theorem Uu {a b:List AV} {x y:Int} (ha:lS a (some x)) (hb:lS b (some y)) (iw: -2^63<x) (OX:x<2^63) (bb: -2^63<y) (hy1:y<2^63) (hy:y≠0) (H:aA):
 Sound Tryz.prog gv 290 [.agg a,.agg b] H (.ret (.agg (cI (yU x y).2))) H:=by
 refine Sp aHz (by simp only[sf,ha.free,hb.free]) (by simp only[sf,qR]) ?_ H;unfold zd;dsimp only;have hd:=yB ha hb iw OX bb hy1 hy;have la:=ha.len;have lb:=hb.len;have Kz:(AV.bool false::AV.bool false::wC zs).length=18:=by simp[eM];rfl
 have rA:∀z,(cI z).length=18:=fun z=>kJ z;generalize yU x y=d at *;refine aB fun K hK=>?_;simp only[↓zP,zG,seval,zI];apply hK;clear hK K;simp only[↓zP,zG,seval,zI,oL la,oL lb];refine cT (hd _) ?_;simp only[↓zP,zG,seval,zI,rA,Kz,oL Kz,oL (rA _)];refine⟨rfl,_,by simp only[↓zP,zR,seval,rA,oL (rA _)];rfl,?_⟩;rfl
def OH (x y:Int):Bool:=decide (-2^63<x)&&decide (x<2^63)&&decide (-2^63<y)&&decide (y<2^63)&& !decide (y=0)
def kq (g:Int×Int->AV):List AV->Option AV
 |[.agg a,.agg b]=>match JN a,JN b with
  |some (some x),some (some y)=>match OH x y with
   |true=>some (g (yU x y))
   |false=>none
  |_,_=>none
 |_=>none
theorem UP {g:Int×Int->AV} {f:FuncId} (hS:∀a b x y,lS a (some x)->lS b (some y)->-2^63<x->x<2^63->-2^63<y->y<2^63->y≠0->∀H,Sound Tryz.prog gv f [.agg a,.agg b] H (.ret (g (yU x y))) H) {args:List AV} {v:AV} (h:kq g args=some v) (H:aA):Sound Tryz.prog gv f args H (.ret v) H:=by
 unfold kq at h;split at h
 . rename_i a b;split at h
   . rename_i x y hx hy;split at h
     . rename_i hc;cases h;simp only[OH,Aj,Cr,Bj,Co] at hc;obtain⟨⟨⟨⟨c1,c2⟩,c3⟩,c4⟩,c5⟩:=hc;exact hS a b x y (pL hx) (pL hy) c1 c2 c3 c4 c5 H
     cases h
   cases h
 cases h
def aCi (f:FuncId) (args:List AV):Option AV:=
 match Nat.beq f 171 with
 |true=>kq (fun d=>.agg (cI d.1)) args
 |false=>match Nat.beq f 290 with
 |true=>kq (fun d=>.agg (cI d.2)) args
 |false=>aCj f args
theorem ky {f:FuncId} {args:List AV} {v:AV} (h:aCi f args=some v) (H:aA):Sound Tryz.prog gv f args H (.ret v) H:=by
 unfold aCi at h;split at h
 . rename_i hf;obtain rfl:=Au hf;exact UP (fun a b x y ha hb h1 h2 h3 h4 h5 H=>DN ha hb h1 h2 h3 h4 h5 H) h H
 split at h
 . rename_i hf;obtain rfl:=Au hf;exact UP (fun a b x y ha hb h1 h2 h3 h4 h5 H=>Uu ha hb h1 h2 h3 h4 h5 H) h H
 exact kz h H
def cR (n d:Int):List AV:=cI n++cI d
theorem XW (n d:Int):(cR n d).length=36:=by rw[cR,Ag,kJ,kJ]
theorem dr (n d:Int):(cR n d).take 18=cI n:=by rw[cR,Ef (by rw[kJ];decide)];exact(oL (kJ n)).2.1
theorem dq (n d:Int):(cR n d).drop 18=cI d:=by rw[cR,Hi (by rw[kJ];decide),(oL (kJ n)).2.2,Cg]
theorem TV (n d:Int):bN (cR n d)=true:=by rw[cR,pN,qR,qR];rfl
theorem xK {a:List AV} {x:Int} (ha:lS a (some x)) (H:aA):Sound Tryz.prog gv 221 [.agg a] H (.ret (.bool true)) H:=by
 refine So aGt (by simp only[sf,ha.free]) ?_ H;unfold xt;dsimp only;have la:=ha.len;obtain⟨rfl,hz⟩:=ha.some
 have hv:∀H,Sound Tryz.prog gv 219 [.agg (cI x)] H (.ret (.bool true)) H:=fun H=>by
  have :=Oo false (decide (x<0)) (.aZ x.natAbs) H
  have e:(!decide (aZ 16 x.natAbs=zs)|| !decide (x<0))=true:=by
   by_cases h:x<0
   . have :decide (aZ 16 x.natAbs=zs)=false:=(by rw[As];rw[vX hz];omega);rw[this];rfl
   rw[As h];simp
  rw[if_neg (by decide),e] at this;exact this
 have e0:(cI x).getD 0 aC=.bool false:=rfl;simp only[↓zP,zG,seval,zI,la,e0];refine cT (hv _) ?_;simp only[↓zP,zG,seval];refine Rx ?_;rfl
theorem ZQ (H:aA):Sound Tryz.prog gv 166 [] H (.ret (.agg (cI 1))) H:=by refine Sp rq (by simp only[sf]) (by simp only[sf,qR]) ?_ H;unfold cn;dsimp only;simp only[↓zP,zG,seval,zI];refine cT (IQ (z:=1) (by decide) (by decide) _) ?_;simp only[↓zP,zG,seval,zI];refine Rx ?_;rfl
theorem WO {n d:Int} (hn:n.natAbs<2^64) (hd:d.natAbs<2^64) (hp:0<d) (hg:Int.gcd n d=1) (H:aA):Sound Tryz.prog gv 168 [.agg (cR n d)] H (.ret (.bool true)) H:=by
 refine So aFq (by simp only[sf,TV]) ?_ H;unfold wb;dsimp only;have wn:n.natAbs<W^16:=Gr hn (by decide);have wd:d.natAbs<W^16:=Gr hd (by decide);have g1:=xK (.enc wn);have g2:=xK (.enc wd);have sg:=HK (.enc wd);have gc:=DK (.enc wn) (.enc wd) hn hd;rw[hg] at gc
 have e1:decide (uM (some d)>0)=true:=by simp only[uM];split<;>(try split)<;>first|omega|rfl
 have l1:=XW n d;have l2:=dr n d;have l3:=dq n d;have rA:∀z,(cI z).length=18:=fun z=>kJ z;have eqq:cE [.b,.b,.i,.i,.i,.i,.i,.i,.i,.i,.i,.i,.i,.i,.i,.i,.i,.i] (cI 1) (cI 1)=some true:=by rfl
 simp only[↓zP,zG,seval,zI,l1,l2];refine cT (g1 _) ?_;simp only[↓zP,zG,seval,zI,l1,l3,oL (rA _)];refine cT (g2 _) ?_;simp only[↓zP,zG,seval,zI,l1,l3,oL (rA _)];refine cT (sg _) ?_;simp only[↓zP,zG,seval,zI,l1,l2,l3,oL (rA _),e1];refine cT (gc _) ?_;simp only[↓zP,zG,seval];refine cT (ZQ _) ?_;simp only[↓zP,zG,seval,eqq];refine Rx ?_;rfl
def sR (n d:Int):Int:=if d<0 then -(Int.gcd n d:Int) else(Int.gcd n d:Int)
theorem WQ {a b:List AV} {n d:Int} (ha:lS a (some n)) (hb:lS b (some d)) (hn0: -2^63<n) (qH:n<2^63) (hd0: -2^63<d) (Vh:d<2^63) (hd:d≠0) (H:aA):
 Sound Tryz.prog gv 165 [.agg a,.agg b] H (.ret (.agg (cR (yU n (sR n d)).1 (yU d (sR n d)).1))) H:=by
 refine Sp aFp (by simp only[sf,ha.free,hb.free]) (by simp only[sf,TV]) ?_ H;unfold wa;dsimp only;have g1:=xK ha;have g2:=xK hb;have sg:=HK hb;have gc:=DK ha hb (by omega) (by omega);have la:=ha.len;have lb:=hb.len;have rA:∀z,(cI z).length=18:=fun z=>kJ z;have Kz:(AV.bool false::AV.bool false::wC zs).length=18:=by simp[eM];rfl
 have hgz:(Int.gcd n d)≠0:=fun h=>hd (Int.gcd_eq_zero_iff.1 h).2;have hgl:Int.gcd n d<=d.natAbs:=Nat.gcd_le_right _ (by omega)
 have e1:(uM (some d)==0)=false:=by simp only[uM];split<;>(try split)<;>first|rfl|omega
 have e2:decide (uM (some d)<0)=decide (d<0):=by rw[Gy];simp only[uM];split<;>(try split)<;>omega
 have hwg:(Int.gcd n d:Int).natAbs<W^16:=Gr (show(Int.gcd n d:Int).natAbs<2^63 by omega) (by decide);have ng:=RO (.enc hwg);have hwm:(sR n d).natAbs<W^16:=by unfold sR;split<;>omega
 have Vl:sR n d≠0:=by unfold sR;split<;>omega
 have Ji: -2^63<sR n d:=by unfold sR;split<;>omega
 have SC:sR n d<2^63:=by unfold sR;split<;>omega
 have q1:=DN ha (.enc hwm) hn0 qH Ji SC Vl;have q2:=DN hb (.enc hwm) hd0 Vh Ji SC Vl;refine aB fun K hK=>?_;simp only[↓zP,zG,seval,zI];apply hK;clear hK K;generalize hX:(((aA.mk 0 .nil).alloc _).alloc _).alloc _=HA;have ib:HA.next=3:=by subst hX;rfl
 have ai:HA.get 0=some (.cells a false):=by subst hX;simp only[zI,seval]
 have g1':HA.get 1=some (.cells b false):=by subst hX;simp only[zI,seval]
 obtain⟨zz,g2',z36⟩:∃zz,HA.get 2=some (.cells zz false)/\zz.length=36:=by subst hX;refine⟨_,by simp only[zI,seval];rfl,?_⟩;rfl
 clear hX;refine aB fun K hK=>?_;simp only[↓zP,zG,seval,zI,ai,oL la];refine cT (g1 _) ?_;simp only[↓zP,zG,seval,zI,g1',oL lb];refine cT (g2 _) ?_;simp only[↓zP,zG,seval,zI,g1',oL lb];refine cT (sg _) ?_;simp only[↓zP,zG,seval,e1];apply hK;clear hK K;refine eS fun f hf=>?_;have f2:f 2=.ref 0 0:=by subst hf;simp only[zB,seval]
 have f3:f 3=.ref 1 0:=by subst hf;simp only[zB,seval]
 have f4:f 4=.ref 2 0:=by subst hf;simp only[zB,seval]
 clear hf;refine aB fun K hK=>?_;simp only[↓zP,zG,seval,zI,f2,f3,ai,g1',oL la,oL lb];refine cT (gc _) ?_;simp only[↓zP,zG,seval,zI,ib,rA,Kz,oL Kz];apply hK;clear hK K;generalize hX:(HA.alloc _).set 3 _=HB;have h0:HB.get 0=some (.cells a false):=by subst hX;simp only[zI,seval,ib,ai]
 have h1:HB.get 1=some (.cells b false):=by subst hX;simp only[zI,seval,ib,g1']
 have h2:HB.get 2=some (.cells zz false):=by subst hX;simp only[zI,seval,ib,g2']
 have h3:HB.get 3=some (.cells (cI (Int.gcd n d)) false):=by subst hX;simp only[zI,seval]
 clear hX ai g1' g2' ib HA;refine eS fun f' hf=>?_;have f2':f' 2=.ref 0 0:=by subst hf;simp only[zB,seval];exact f2
 have f3':f' 3=.ref 1 0:=by subst hf;simp only[zB,seval];exact f3
 have Rs:f' 4=.ref 2 0:=by subst hf;simp only[zB,seval];exact f4
 have Rt:f' 5=.ref 3 0:=by subst hf;simp only[zB,seval]
 clear hf f2 f3 f4 f;refine aB fun K hK=>?_
 have key:∀(f:cQ) (HC:aA),f 2=.ref 0 0->f 3=.ref 1 0->f 4=.ref 2 0->f 5=.ref 3 0->HC.get 0=some (.cells a false)->HC.get 1=some (.cells b false)->HC.get 2=some (.cells zz false)->HC.get 3=some (.cells (cI (sR n d)) false)->K f [] HC:=by
  intro f HC f2 f3 f4 f5 h0 h1 h2 h3;apply hK;clear hK K;refine aB fun K hK=>?_;refine bK (by decide) ?_;generalize (yU n (sR n d)).1=qa at *;generalize (yU d (sR n d)).1=qb at *;have k1:(cI qa++AV.bool false::AV.bool false::wC zs).length=36:=by rw[Ag,rA,Kz]
  have k2:(cI qa++AV.bool false::AV.bool false::wC zs).take 18=cI qa:=by rw[Ef (by rw[rA];decide)];exact(oL (rA qa)).2.1
  have hcR:cI qa++cI qb=cR qa qb:=rfl;have Pb:=oL (XW qa qb);have k3:(cI qa++AV.bool false::AV.bool false::wC zs).drop 36=[]:=Io (by rw[k1];decide);simp only[↓zP,zG,seval,zD,reduceCtorEq,zI,f2,f5,h0,h3,oL la,oL (rA _)];refine rM (q1 _) ?_;simp only[↓zP,zG,seval,zD,zI,f3,f5,h1,h3,oL lb,oL (rA _)];refine rM (q2 _) ?_;simp only[↓zP,zG,seval,zD,reduceCtorEq,zI,f4,h0,h1,h2,h3,oL (rA _),z36,oL z36,k1,k2,k3,hcR,Pb];apply hK;clear hK K;simp only[↓zP,seval];refine⟨rfl,_,by simp only[↓zP,zR,seval,f4,Pb];rfl,?_⟩;rfl
 simp only[↓zP,zG,seval,zI,f3',h1,oL lb];refine cT (sg _) ?_;simp only[↓zP,zG,seval,e2];refine⟨fun hdn=>?_,fun hdn=>?_⟩
 . have em:sR n d= -(Int.gcd n d:Int):=by unfold sR;rw[if_pos hdn]
   have ev:AV.agg (cO (SY (some (Int.gcd n d:Int))))=AV.agg (cI (sR n d)):=(by rw[em];rfl);rw[ev] at ng;simp only[zG,seval,zI,Rt,h3,oL (rA _)];refine cT (ng _) ?_;simp only[↓zP,zG,seval,zI,Rt,h3,oL (rA _)];refine key _ _ ?_ ?_ ?_ ?_ ?_ ?_ ?_ ?_
   . simp only[zB,seval];exact f2'
   . simp only[zB,seval];exact f3'
   . simp only[zB,seval];exact Rs
   . simp only[zB,seval];exact Rt
   . simp only[zI,seval,h0]
   . simp only[zI,seval,h1]
   . simp only[zI,seval,h2]
   simp only[zI,seval]
 have em:sR n d=(Int.gcd n d:Int):=by unfold sR;rw[if_neg hdn]
 rw[<-em] at h3;refine key _ _ ?_ ?_ ?_ ?_ h0 h1 h2 h3
 . simp only[zB,seval];exact f2'
 . simp only[zB,seval];exact f3'
 . simp only[zB,seval];exact Rs
 simp only[zB,seval];exact Rt
end Go.Proofs.YtgggiembljfnhaaGreatDoor
namespace Go.Proofs.YtgggiembljfnhaaGreatDoor
open Go Go.Av Go.aY
def plX (l:List aY.V) (q:aY.V×Int):List Nat:=ZE (nT (fun i=>l.getD i V0) l.length q.1 q.2) (tA q.1 (fun i=>l.getD i V0) (nT (fun i=>l.getD i V0) l.length q.1 q.2))
theorem Te {l:List aY.V} (hl:l.Pairwise kO) {q:aY.V×Int} (hq:q∈GQ l):Xr l q=plX l q:=lf ((HM hl).po q hq)
theorem Tf {l:List aY.V} {S:List (aY.V×Int)} (h:VF (fun i=>l.getD i V0) l.length S=true):GQ l=S:=(wW l).uniq (BH h)
theorem Qk {S:List (aY.V×Int)} {L L':aY.V×Int->List Nat} (h:∀q∈S,L q=L' q) (k:Nat):kF S L k=kF S L' k:=by
 unfold kF;rw[Gk,Hc,Hc];constructor
 . rintro⟨q,hq,hk⟩;exact⟨q,hq,by rw[<-h q hq];exact hk⟩
 rintro⟨q,hq,hk⟩;exact⟨q,hq,by rw[h q hq];exact hk⟩
theorem Ra (l C:List aY.V) {S:List (aY.V×Int)} {L L':aY.V×Int->List Nat} (h:∀q∈S,L q=L' q):NN l C S L=NN l C S L':=by
 have hL:kW C S L=kW C S L':=by unfold kW;rw[show kF S L=kF S L' from funext (Qk h)]
 have hO:mT l C S L=mT l C S L':=by unfold mT;rw[hL]
 unfold NN;rw[hO,hL]
def WZ:List aY.V->Bool
 |[]=>true
 |v::r=>(r.all fun x=>ltV v x)&&WZ r
theorem HZ:∀{l:List aY.V},WZ l=true->l.Pairwise kO
 |[],_=>.nil
 |q::r,h=>by simp only[WZ,Aj,Bc] at h;exact Ec.2 ⟨fun x hx=>UH.1 (h.1 x hx),HZ h.2⟩
theorem dt {l:List aY.V} {S:List (aY.V×Int)} (hl:WZ l=true) (h:VF (fun i=>l.getD i V0) l.length S=true):NM l=NN l l S (plX l):=by have hs:=HZ hl;unfold NM;rw[KT hs,Ra l l (S:=GQ l) fun q hq=>Te hs hq,Tf h]
theorem Xs {l:List aY.V} {S:List (aY.V×Int)} (hl:WZ l=true) (h:VF (fun i=>l.getD i V0) l.length S=true):Ur l S (plX l) where
 fl:=BH h
 po q hq:=by
  have Wu:q∈GQ l:=by rw[Tf h];exact hq
  have :=(HM (HZ hl)).po q Wu
  rwa [Te (HZ hl) Wu] at this
def vJ (o:Int) (p:Int):List aY.V:=[⟨o,p,p⟩,⟨o,p,p+2⟩,⟨o,p+2,p⟩,⟨o,p+2,p+2⟩,⟨o+2,p,p⟩,⟨o+2,p,p+2⟩,⟨o+2,p+2,p⟩,⟨o+2,p+2,p+2⟩]
def Xd (o:Int) (p:Int):List (aY.V×Int):=[(⟨-1,0,0⟩,-o),(⟨0,-1,0⟩,-p),(⟨0,0,-1⟩,-p),(⟨0,0,1⟩,p+2),(⟨0,1,0⟩,p+2),(⟨1,0,0⟩,o+2)]
theorem TW:VF (fun i=>(vJ 0 0).getD i V0) (vJ 0 0).length (Xd 0 0)=true:=by decide+kernel
theorem TX:WZ (vJ 0 0)=true:=by decide+kernel
theorem Ls:NM (vJ 0 0)=0:=by rw[dt TX TW];decide+kernel
def JL (o p:Int):AV:=.bH 0 3 (gL (vJ o p))
theorem VQ (o p:Int):IS (JL o p,vJ o p):=.inr rfl
theorem jy (H:aA):Sound Tryz.prog gv 158 [.agg [JL 0 0]] H (.ret (.bH (H.next+2) 5 ((Xd 0 0).map (BD (plX (vJ 0 0)))))) (H.alloc .tok):=by have hn:∀v∈vJ 0 0,fI (2^18) v:=(zu Ls).2.2.2.2.2.2;exact Uq (tag:=0) rfl hn (Ai _) (by decide) (Xs TX TW) (by decide) H
end Go.Proofs.YtgggiembljfnhaaGreatDoor
namespace Go.Proofs.YtgggiembljfnhaaGreatDoor
open Go Go.Av Go.DL Go.aY
def eo:List AV->Option (Int×Int)
 |[.agg a,.agg b]=>match JN a,JN b with
  |some (some x),some (some y)=>some (x,y)
  |_,_=>none
 |_=>none
theorem TY {args:List AV} {x y:Int} (h:eo args=some (x,y)):∃a b,args=[.agg a,.agg b]/\lS a (some x)/\lS b (some y):=by
 unfold eo at h;split at h
 . rename_i a b;split at h
   . rename_i x' y' hx hy;cases h;exact⟨a,b,rfl,pL hx,pL hy⟩
   cases h
 cases h
def aAa:List AV->Option (Int×Int)
 |[.agg c]=>match JN (c.take 18),JN (c.drop 18) with
  |some (some x),some (some y)=>some (x,y)
  |_,_=>none
 |_=>none
theorem er {args:List AV} {x y:Int} (h:aAa args=some (x,y)):args=[.agg (cR x y)]:=by
 unfold aAa at h;split at h
 . rename_i c;split at h
   . rename_i x' y' hx hy;cases h;have e1:=(pL hx).some.1;have e2:=(pL hy).some.1;rw[cR,<-e1,<-e2,Gw]
   cases h
 cases h
def om (x y:Int):Bool:=Nat.blt x.natAbs (2^64)&&Nat.blt y.natAbs (2^64)&&decide (0<y)&&Nat.beq (Int.gcd x y) 1
def YY:List AV->Bool
 |[.agg c]=>oO (qD c) [JL 0 0]
 |_=>false
def nu:List (List AV):=[
 [.int .i64 (-1),.int .i64 0,.int .i64 0,.int .i64 0,.bH 0 1 [[.int .i64 0],[.int .i64 1],[.int .i64 3],[.int .i64 2]]],
 [.int .i64 0,.int .i64 (-1),.int .i64 0,.int .i64 0,.bH 0 1 [[.int .i64 0],[.int .i64 4],[.int .i64 5],[.int .i64 1]]],
 [.int .i64 0,.int .i64 0,.int .i64 (-1),.int .i64 0,.bH 0 1 [[.int .i64 0],[.int .i64 2],[.int .i64 6],[.int .i64 4]]],
 [.int .i64 0,.int .i64 0,.int .i64 1,.int .i64 2,.bH 0 1 [[.int .i64 1],[.int .i64 5],[.int .i64 7],[.int .i64 3]]],
 [.int .i64 0,.int .i64 1,.int .i64 0,.int .i64 2,.bH 0 1 [[.int .i64 2],[.int .i64 3],[.int .i64 7],[.int .i64 6]]],
 [.int .i64 1,.int .i64 0,.int .i64 0,.int .i64 2,.bH 0 1 [[.int .i64 4],[.int .i64 6],[.int .i64 7],[.int .i64 5]]]]
theorem Xc:(Xd 0 0).map (BD (plX (vJ 0 0)))=nu:=by kernel_rfl
def aJd (f:FuncId) (args:List AV) (H:aA):Option (Out×aA):=
 match aCi f args with
 |some v=>some (.ret v,H)
 |none=>match Nat.beq f 170 with
 |true=>match eo args with
  |some (x,y)=>match Nat.blt x.natAbs (2^64)&&Nat.blt y.natAbs (2^64) with
   |true=>some (.ret (.agg (cI (Int.gcd x y))),H)
   |false=>none
  |none=>none
 |false=>match Nat.beq f 165 with
 |true=>match eo args with
  |some (x,y)=>match OH x y with
   |true=>some (.ret (.agg (cR (yU x (sR x y)).1 (yU y (sR x y)).1)),H)
   |false=>none
  |none=>none
 |false=>match Nat.beq f 168 with
 |true=>match aAa args with
  |some (x,y)=>match om x y with
   |true=>some (.ret (.bool true),H)
   |false=>none
  |none=>none
 |false=>match Nat.beq f 158 with
 |true=>match YY args with
  |true=>some (.ret (.bH (H.next+2) 5 nu),H.alloc .tok)
  |false=>none
 |false=>none
theorem oE:FF Tryz.prog gv aJd:=by
 intro f args H out H' h;unfold aJd at h;split at h
 . rename_i v hv;cases h;exact ky hv H
 split at h
 . rename_i hf;obtain rfl:=Au hf;split at h
   . rename_i x y hd;obtain⟨a,b,rfl,ha,hb⟩:=TY hd;split at h
     . rename_i hc;cases h;simp only[Aj,Eb] at hc;exact DK ha hb hc.1 hc.2 H
     cases h
   cases h
 split at h
 . rename_i hf;obtain rfl:=Au hf;split at h
   . rename_i x y hd;obtain⟨a,b,rfl,ha,hb⟩:=TY hd;split at h
     . rename_i hc;cases h;simp only[OH,Aj,Cr,Bj,Co] at hc;obtain⟨⟨⟨⟨c1,c2⟩,c3⟩,c4⟩,c5⟩:=hc;exact WQ ha hb c1 c2 c3 c4 c5 H
     cases h
   cases h
 split at h
 . rename_i hf;obtain rfl:=Au hf;split at h
   . rename_i x y hd;obtain rfl:=er hd;split at h
     . rename_i hc;cases h;simp only[om,Aj,Bj,Eb] at hc;obtain⟨⟨⟨c1,c2⟩,c3⟩,c4⟩:=hc;exact WO c1 c2 c3 (Au c4) H
     cases h
   cases h
 split at h
 . rename_i hf;obtain rfl:=Au hf;split at h
   . rename_i hc;cases h
     obtain⟨c,rfl,hc⟩:∃c,args=[.agg c]/\oO (qD c) [JL 0 0]=true:=by
      unfold YY at hc;split at hc
      . exact⟨_,rfl,hc⟩
      cases hc
     refine Sound.ah ?_
     have e:qD [AV.agg c]=[.agg [JL 0 0]]:=by rw[qD,ah,qD,kY _ _ hc]
     rw[e,<-Xc];exact jy H
   cases h
 cases h
end Go.Proofs.YtgggiembljfnhaaGreatDoor
namespace Go.Proofs.YtgggiembljfnhaaGreatDoor
open Go Go.Av Go.aY
def aOa:FT:=.node 141 (.node 74 (.node 34 (.node 27 (.node 14 (.node 11 (.leaf 8 W8.1) (.leaf 11 W11.1)) (.node 16 (.leaf 14 W14.1) (.node 26 (.leaf 16 W16.1) (.leaf 26 W26.1)))) (.node 31 (.node 28 (.leaf 27 W27.1) (.node 29 (.leaf 28 W28.1) (.leaf 29 W29.1))) (.node 32 (.leaf 31 W31.1) (.node 33 (.leaf 32 W32.1) (.leaf 33 W33.1))))) (.node 66 (.node 44 (.node 39 (.leaf 34 W34.1) (.node 40 (.leaf 39 W39.1) (.leaf 40 W40.1))) (.node 45 (.leaf 44 W44.1) (.node 65 (.leaf 45 W45.1) (.leaf 65 W65.1)))) (.node 70 (.node 67 (.leaf 66 W66.1) (.node 69 (.leaf 67 W67.1) (.leaf 69 W69.1))) (.node 72 (.leaf 70 W70.1) (.node 73 (.leaf 72 W72.1) (.leaf 73 W73.1)))))) (.node 111 (.node 88 (.node 77 (.node 75 (.leaf 74 W74.1) (.node 76 (.leaf 75 W75.1) (.leaf 76 W76.1))) (.node 79 (.leaf 77 W77.1) (.node 86 (.leaf 79 W79.1) (.leaf 86 W86.1)))) (.node 107 (.node 105 (.leaf 88 W88.1) (.node 106 (.leaf 105 uk.1) (.leaf 106 um.1))) (.node 108 (.leaf 107 uq.1) (.node 109 (.leaf 108 ur.1) (.leaf 109 uu.1))))) (.node 131 (.node 127 (.node 112 (.leaf 111 uv.1) (.node 113 (.leaf 112 uw.1) (.leaf 113 ux.1))) (.node 129 (.leaf 127 vd.1) (.node 130 (.leaf 129 vf.1) (.leaf 130 vg.1)))) (.node 134 (.node 132 (.leaf 131 vh.1) (.node 133 (.leaf 132 vl.1) (.leaf 133 vm.1))) (.node 139 (.leaf 134 vn.1) (.node 140 (.leaf 139 vo.1) (.leaf 140 vq.1))))))) (.node 232 (.node 181 (.node 174 (.node 163 (.node 142 (.leaf 141 vr.1) (.node 162 (.leaf 142 vu.1) (.leaf 162 v7.1))) (.node 166 (.leaf 163 cm.1) (.node 167 (.leaf 166 cn.1) (.leaf 167 cp.1)))) (.node 178 (.node 175 (.leaf 174 wh.1) (.node 176 (.leaf 175 wi.1) (.leaf 176 wj.1))) (.node 179 (.leaf 178 wo.1) (.node 180 (.leaf 179 ct.1) (.leaf 180 wu.1))))) (.node 217 (.node 188 (.node 186 (.leaf 181 wx.1) (.node 187 (.leaf 186 wz.1) (.leaf 187 xa.1))) (.node 189 (.leaf 188 xb.1) (.node 190 (.leaf 189 xc.1) (.leaf 190 cu.1)))) (.node 224 (.node 218 (.leaf 217 xp.1) (.node 219 (.leaf 218 xq.1) (.leaf 219 cy.1))) (.node 230 (.leaf 224 cz.1) (.node 231 (.leaf 230 x8.1) (.leaf 231 ya.1)))))) (.node 255 (.node 238 (.node 235 (.node 233 (.leaf 232 yb.1) (.node 234 (.leaf 233 yc.1) (.leaf 234 yd.1))) (.node 236 (.leaf 235 yg.1) (.node 237 (.leaf 236 yh.1) (.leaf 237 yi.1)))) (.node 252 (.node 246 (.leaf 238 yj.1) (.node 250 (.leaf 246 yk.1) (.leaf 250 yl.1))) (.node 253 (.leaf 252 ym.1) (.node 254 (.leaf 253 yp.1) (.leaf 254 yq.1))))) (.node 292 (.node 285 (.node 256 (.leaf 255 yr.1) (.node 277 (.leaf 256 da.1) (.leaf 277 y7.1))) (.node 289 (.leaf 285 zb.1) (.node 291 (.leaf 289 zc.1) (.leaf 291 ze.1)))) (.node 301 (.node 293 (.leaf 292 zf.1) (.node 294 (.leaf 293 zg.1) (.leaf 294 zh.1))) (.node 323 (.leaf 301 zi.1) (.node 325 (.leaf 323 zk.1) (.leaf 325 zl.1)))))))
theorem pS:aOa.Wn fun f F=>∃mu,iM Tryz.prog gv mu f F:=⟨⟨⟨⟨⟨⟨⟨_,is8⟩,⟨_,aLq⟩⟩,⟨⟨_,aLr⟩,⟨⟨_,aFm⟩,⟨_,aLy⟩⟩⟩⟩,⟨⟨⟨_,aLz⟩,⟨⟨_,aMa⟩,⟨_,aMb⟩⟩⟩,⟨⟨_,aMc⟩,⟨⟨_,aMd⟩,⟨_,aMe⟩⟩⟩⟩⟩,⟨⟨⟨⟨_,aMf⟩,⟨⟨_,aMg⟩,⟨_,aMh⟩⟩⟩,⟨⟨_,aIi⟩,⟨⟨_,aIj⟩,⟨_,aMz⟩⟩⟩⟩,⟨⟨⟨_,aNa⟩,⟨⟨_,aNb⟩,⟨_,aNc⟩⟩⟩,⟨⟨_,aNd⟩,⟨⟨_,aNe⟩,⟨_,aNf⟩⟩⟩⟩⟩⟩,⟨⟨⟨⟨⟨_,aNg⟩,⟨⟨_,aNh⟩,⟨_,aNi⟩⟩⟩,⟨⟨_,aNj⟩,⟨⟨_,aNk⟩,⟨_,aNm⟩⟩⟩⟩,⟨⟨⟨_,aIo⟩,⟨⟨_,aEn⟩,⟨_,aEo⟩⟩⟩,⟨⟨_,aEp⟩,⟨⟨_,aEq⟩,⟨_,aEr⟩⟩⟩⟩⟩,⟨⟨⟨⟨_,aEs⟩,⟨⟨_,aEt⟩,⟨_,aEu⟩⟩⟩,⟨⟨_,aEy⟩,⟨⟨_,aFa⟩,⟨_,aFb⟩⟩⟩⟩,⟨⟨⟨_,aFc⟩,⟨⟨_,aFd⟩,⟨_,aFe⟩⟩⟩,⟨⟨_,aFf⟩,⟨⟨_,aFg⟩,⟨_,aFh⟩⟩⟩⟩⟩⟩⟩,⟨⟨⟨⟨⟨⟨_,aFi⟩,⟨⟨_,aFj⟩,⟨_,aFn⟩⟩⟩,⟨⟨_,rp⟩,⟨⟨_,rq⟩,⟨_,ru⟩⟩⟩⟩,⟨⟨⟨_,aFu⟩,⟨⟨_,aFv⟩,⟨_,aFw⟩⟩⟩,⟨⟨_,aFy⟩,⟨⟨_,ry⟩,⟨_,aFz⟩⟩⟩⟩⟩,⟨⟨⟨⟨_,aGa⟩,⟨⟨_,aGb⟩,⟨_,aGc⟩⟩⟩,⟨⟨_,aGd⟩,⟨⟨_,aGe⟩,⟨_,rz⟩⟩⟩⟩,⟨⟨⟨_,aGq⟩,⟨⟨_,aGr⟩,⟨_,sk⟩⟩⟩,⟨⟨_,so⟩,⟨⟨_,aHa⟩,⟨_,aHb⟩⟩⟩⟩⟩⟩,⟨⟨⟨⟨⟨_,aHc⟩,⟨⟨_,aHd⟩,⟨_,aHe⟩⟩⟩,⟨⟨_,aHf⟩,⟨⟨_,aHg⟩,⟨_,aHh⟩⟩⟩⟩,⟨⟨⟨_,aHi⟩,⟨⟨_,aHj⟩,⟨_,aHk⟩⟩⟩,⟨⟨_,aHl⟩,⟨⟨_,aHm⟩,⟨_,aHn⟩⟩⟩⟩⟩,⟨⟨⟨⟨_,aHo⟩,⟨⟨_,sq⟩,⟨_,aHt⟩⟩⟩,⟨⟨_,aHx⟩,⟨⟨_,aHy⟩,⟨_,aIa⟩⟩⟩⟩,⟨⟨⟨_,aIb⟩,⟨⟨_,aIc⟩,⟨_,aId⟩⟩⟩,⟨⟨_,aIe⟩,⟨⟨_,aIg⟩,⟨_,aIh⟩⟩⟩⟩⟩⟩⟩⟩
def xW (g:aT) (T:FT) (RD:GO):List Fact->List Fact->Bool
 |_,[]=>true
 |K,e::es=>match ran g T (kr K RD) te 2 e with
  |true=>xW g T RD (e::K) es
  |false=>false
theorem rN.xW {g:aT} {T:FT} {o:GO} (hm:Fit Tryz.prog g) (hg:uW g) (hT:T.Wn fun f F=>∃mu,iM Tryz.prog g mu f F) (ho:FF Tryz.prog g o):∀(es:List Fact) {K:List Fact},rN Tryz.prog g K->xW g T o K es=true->rN Tryz.prog g (es.reverseAux K)
 |[],_,hK,_=>hK
 |e::es,K,hK,h=>by
  unfold Proofs.YtgggiembljfnhaaGreatDoor.xW at h;split at h
  . rename_i h1;exact rN.xW hm hg hT ho es (hK.ran hm hg hT ho Yn 2 h1) h
  cases h
def v3 (a b c:Int):List AV:=cR a 1++cR b 1++cR c 1
def Lt:AV:=.bH 0 3 [iC [0,0,0],iC [0,0,2],iC [0,2,0],iC [0,2,2],iC [2,0,0],iC [2,0,2],iC [2,2,0],iC [2,2,2]]
def p0:List AV:=iC [0,0,0,1,0,0,0]
def zz:AV:=.bH 0 3 [iC [0,0,0],iC [0,0,0]]
def bX (c:UInt8):List AV:=[.str [c],.bH 0 1 [[Lt]],.int .i64 3,.int .i64 3,.int .i64 500,.int .i64 500]
def bA:List AV:=bX 97
def yX:List AV:=[.int .i64 10,.int .i64 500,.int .i64 500,.bH 0 14 [.int .i64 1::(bX 97++iC [90,0,0,1,0,0,0]),.int .i64 2::(bX 112++iC [95,0,0,1,0,0,0])],.bH 0 8 [iC [1,0,1,1,2,9,1,0]],.bH 0 10 [iC [1,0,1,1,5,0,0,7,0,0]]]
def sX (a t:Bool) (p:List AV):AV:=.agg [.bH 0 1 [[.bool a],[.bool false]],.bH 0 7 [p,iC [95,0,0,1,0,0,0]],zz,zz,.bH 0 1 [[.bool t]],.bH 0 1 [[.bool false]]]
def sA:AV:=sX false false (iC [90,0,0,1,0,0,0])
def sB:AV:=sX true false p0
def sC:AV:=sX true true p0
def pts:AV:=.bH 0 108 [v3 0 0 0,v3 0 0 2,v3 0 2 0,v3 0 2 2,v3 2 0 0,v3 2 0 2,v3 2 2 0,v3 2 2 2]
theorem aBx (H:aA):Sound Tryz.prog gv 102 [.agg [Lt]] H (.ret (.int .i64 0)) H:=by have :=LY (p:=(JL 0 0,vJ 0 0)) (VQ 0 0) (by decide) H;rw[show NM ((JL 0 0,vJ 0 0):AV×List V).2=0 from Ls] at this;exact this
def aJw:FT:=.node 101 (.leaf 64 W64.1) (.node 103 (.leaf 101 ui.1) (.leaf 103 uj.1))
theorem dv:aJw.Wn fun f F=>∃mu,iM Tryz.prog gv mu f F:=⟨⟨_,aMy⟩,⟨⟨_,aEl⟩,⟨_,aEm⟩⟩⟩
def kY9:List Fact:=[(102,[.agg [Lt]],.int .i64 0)]
theorem aBn:rN Tryz.prog gv kY9:=rN.nil.cons aBx
def eY9:List Fact:=[(64,[.agg (bX 112)],.int .i64 0),(64,[.agg (bX 97)],.int .i64 0)]
def kY0:List Fact:=eY9.reverseAux kY9
theorem aBm:rN Tryz.prog gv kY0:=rN.xW fit dZ dv oE eY9 aBn (by kernel_rfl)
def eA:List Fact:=[(26,[.int .i64 90,.int .i64 0],.agg (iC [90,0,0,1,0,0,0])),
 (26,[.int .i64 95,.int .i64 0],.agg (iC [95,0,0,1,0,0,0])),
 (26,[.int .i64 0,.int .i64 9],.agg (iC [0,0,9,1,0,0,0])),
 (26,[.int .i64 0,.int .i64 0],.agg (p0)),
 (14,[.agg (yX)],sA),
 (27,[.agg (yX)],.int .i64 0),
 (28,[sA],.aF),
 (11,[.agg (yX),sA],.bool true),
 (29,[sA],.bool true),
 (8,[.agg (yX),sA,.agg ([.int .i64 1,.int .i64 1,.bH 0 7 [iC [0,0,9,1,0,0,0],p0]])],.eZ [sB,.int .i64 0]),
 (29,[sB],.bool true),
 (8,[.agg (yX),sB,.agg ([.int .i64 1,.int .i64 1,.bH 0 7 [iC [0,0,9,1,0,0,0],p0]])],.eZ [sB,.int .i64 4]),
 (8,[.agg (yX),sB,.agg ([.int .i64 2,.int .i64 1,.bH 0 7 [p0,iC [0,0,9,1,0,0,0]]])],.eZ [sB,.int .i64 7]),
 (8,[.agg (yX),sB,.agg ([.int .i64 3,.int .i64 1,.aF])],.eZ [sB,.int .i64 1]),
 (8,[.agg (yX),sB,.agg ([.int .i64 3,.int .i64 0,.aF])],.eZ [sC,.int .i64 0]),
 (29,[sC],.bool true),
 (8,[.agg (yX),sC,.agg ([.int .i64 3,.int .i64 0,.aF])],.eZ [sC,.int .i64 4]),
 (26,[.int .i64 5,.int .i64 0],.agg (iC [5,0,0,1,0,0,0])),
 (8,[.agg (yX),sC,.agg ([.int .i64 1,.int .i64 2,.bH 0 7 [iC [5,0,0,1,0,0,0]]])],.eZ [sC,.int .i64 2]),
 (28,[sC],.bH 0 1 [iC [1]]),
 (31,[.bH 0 1 [iC [1]],.bH 0 1 [iC [1]]],.bool true),
 (16,[.agg ([.int .i64 3,.int .i64 0,.aF])],.bH 0 1 [[.int .u8 6],[.int .u8 0],[.int .u8 0]])]
def kYA:List Fact:=eA.reverseAux kY0
theorem aBo:rN Tryz.prog gv kYA:=rN.xW fit dZ pS oE eA aBm (by kernel_rfl)
def eB0:List Fact:=[(69,[.agg (iC [0,0,0])],.agg (v3 0 0 0)),
 (107,[.agg (v3 0 0 0),.agg (v3 1 1 2)],.agg (v3 1 1 2)),
 (70,[.agg (p0),.agg (iC [1,1,2])],.agg (v3 1 1 2)),
 (69,[.agg (iC [9,1,0])],.agg (v3 9 1 0)),
 (109,[.bH 0 6 [bA],.bH 0 7 [p0]],.bool true),
 (179,[.agg (iC [0,0,1])],.agg (iC [0,0,(-1)])),
 (107,[.agg (v3 0 0 0),.agg (v3 0 0 0)],.agg (v3 0 0 0)),
 (70,[.agg (p0),.agg (iC [0,0,0])],.agg (v3 0 0 0)),
 (107,[.agg (v3 0 0 0),.agg (v3 0 0 2)],.agg (v3 0 0 2)),
 (70,[.agg (p0),.agg (iC [0,0,2])],.agg (v3 0 0 2)),
 (107,[.agg (v3 0 0 0),.agg (v3 0 2 0)],.agg (v3 0 2 0)),
 (70,[.agg (p0),.agg (iC [0,2,0])],.agg (v3 0 2 0))]
def aIs:List Fact:=eB0.reverseAux kYA
theorem je:rN Tryz.prog gv aIs:=rN.xW fit dZ pS oE eB0 aBo (by kernel_rfl)
def eB1:List Fact:=[(107,[.agg (v3 0 0 0),.agg (v3 0 2 2)],.agg (v3 0 2 2)),
 (70,[.agg (p0),.agg (iC [0,2,2])],.agg (v3 0 2 2)),
 (107,[.agg (v3 0 0 0),.agg (v3 2 0 0)],.agg (v3 2 0 0)),
 (70,[.agg (p0),.agg (iC [2,0,0])],.agg (v3 2 0 0)),
 (107,[.agg (v3 0 0 0),.agg (v3 2 0 2)],.agg (v3 2 0 2)),
 (70,[.agg (p0),.agg (iC [2,0,2])],.agg (v3 2 0 2)),
 (107,[.agg (v3 0 0 0),.agg (v3 2 2 0)],.agg (v3 2 2 0)),
 (70,[.agg (p0),.agg (iC [2,2,0])],.agg (v3 2 2 0)),
 (107,[.agg (v3 0 0 0),.agg (v3 2 2 2)],.agg (v3 2 2 2)),
 (70,[.agg (p0),.agg (iC [2,2,2])],.agg (v3 2 2 2)),
 (180,[.agg (p0),.agg ([Lt])],pts),
 (69,[.agg (iC [0,0,(-1)])],.agg (v3 0 0 (-1)))]
def aIt:List Fact:=eB1.reverseAux aIs
theorem jf:rN Tryz.prog gv aIt:=rN.xW fit dZ pS oE eB1 je (by kernel_rfl)
def eB2:List Fact:=[(231,[.agg (iC [0,0,(-1)]),.agg (v3 0 0 2)],.agg (cR (-2) 1)),
 (231,[.agg (iC [0,0,(-1)]),.agg (v3 0 0 0)],.agg (cR 0 1)),
 (231,[.agg (iC [0,0,(-1)]),.agg (v3 0 2 0)],.agg (cR 0 1)),
 (231,[.agg (iC [0,0,(-1)]),.agg (v3 0 2 2)],.agg (cR (-2) 1)),
 (231,[.agg (iC [0,0,(-1)]),.agg (v3 2 0 0)],.agg (cR 0 1)),
 (231,[.agg (iC [0,0,(-1)]),.agg (v3 2 0 2)],.agg (cR (-2) 1)),
 (231,[.agg (iC [0,0,(-1)]),.agg (v3 2 2 0)],.agg (cR 0 1)),
 (231,[.agg (iC [0,0,(-1)]),.agg (v3 2 2 2)],.agg (cR (-2) 1)),
 (178,[.agg (iC [0,0,(-1)]),pts],.bH 0 108 [v3 0 0 0,v3 0 2 0,v3 2 0 0,v3 2 2 0])]
def aIu:List Fact:=eB2.reverseAux aIt
theorem jg:rN Tryz.prog gv aIu:=rN.xW fit dZ pS oE eB2 jf (by kernel_rfl)
def eC0:List Fact:=[(134,[.agg (cR 0 1)],.int .i64 0),
 (189,[.agg (v3 0 2 0),.agg (v3 0 0 0)],.agg (v3 0 2 0)),
 (189,[.agg (v3 2 0 0),.agg (v3 0 0 0)],.agg (v3 2 0 0)),
 (134,[.agg (cR (-4) 1)],.int .i64 (-1)),
 (238,[.agg ([.int .i64 0,.int .i64 1,.bool false]),.agg (v3 0 0 0),.agg (v3 0 2 0),.agg (v3 2 0 0)],.int .i64 (-1)),
 (189,[.agg (v3 2 2 0),.agg (v3 0 0 0)],.agg (v3 2 2 0)),
 (134,[.agg (cR 4 1)],.int .i64 1),
 (238,[.agg ([.int .i64 0,.int .i64 1,.bool false]),.agg (v3 0 0 0),.agg (v3 2 0 0),.agg (v3 2 2 0)],.int .i64 1),
 (189,[.agg (v3 0 0 0),.agg (v3 2 0 0)],.agg (v3 (-2) 0 0)),
 (189,[.agg (v3 0 2 0),.agg (v3 2 0 0)],.agg (v3 (-2) 2 0)),
 (238,[.agg ([.int .i64 0,.int .i64 1,.bool false]),.agg (v3 2 0 0),.agg (v3 0 0 0),.agg (v3 0 2 0)],.int .i64 (-1)),
 (189,[.agg (v3 2 0 0),.agg (v3 2 0 0)],.agg (v3 0 0 0))]
def aIv:List Fact:=eC0.reverseAux aIu
theorem jh:rN Tryz.prog gv aIv:=rN.xW fit dZ pS oE eC0 jg (by kernel_rfl)
def eC1:List Fact:=[(238,[.agg ([.int .i64 0,.int .i64 1,.bool false]),.agg (v3 2 0 0),.agg (v3 0 2 0),.agg (v3 2 0 0)],.int .i64 0),
 (189,[.agg (v3 2 2 0),.agg (v3 2 0 0)],.agg (v3 0 2 0)),
 (238,[.agg ([.int .i64 0,.int .i64 1,.bool false]),.agg (v3 2 0 0),.agg (v3 0 2 0),.agg (v3 2 2 0)],.int .i64 (-1)),
 (189,[.agg (v3 0 0 0),.agg (v3 2 2 0)],.agg (v3 (-2) (-2) 0)),
 (189,[.agg (v3 0 2 0),.agg (v3 2 2 0)],.agg (v3 (-2) 0 0)),
 (238,[.agg ([.int .i64 0,.int .i64 1,.bool false]),.agg (v3 2 2 0),.agg (v3 0 0 0),.agg (v3 0 2 0)],.int .i64 (-1)),
 (189,[.agg (v3 2 0 0),.agg (v3 2 2 0)],.agg (v3 0 (-2) 0)),
 (238,[.agg ([.int .i64 0,.int .i64 1,.bool false]),.agg (v3 2 2 0),.agg (v3 0 2 0),.agg (v3 2 0 0)],.int .i64 1),
 (189,[.agg (v3 2 2 0),.agg (v3 2 2 0)],.agg (v3 0 0 0)),
 (238,[.agg ([.int .i64 0,.int .i64 1,.bool false]),.agg (v3 2 2 0),.agg (v3 0 2 0),.agg (v3 2 2 0)],.int .i64 0),
 (189,[.agg (v3 0 0 0),.agg (v3 0 2 0)],.agg (v3 0 (-2) 0)),
 (189,[.agg (v3 0 2 0),.agg (v3 0 2 0)],.agg (v3 0 0 0))]
def aIw:List Fact:=eC1.reverseAux aIv
theorem ji:rN Tryz.prog gv aIw:=rN.xW fit dZ pS oE eC1 jh (by kernel_rfl)
def eC2:List Fact:=[(238,[.agg ([.int .i64 0,.int .i64 1,.bool false]),.agg (v3 0 2 0),.agg (v3 0 0 0),.agg (v3 0 2 0)],.int .i64 0),
 (189,[.agg (v3 2 0 0),.agg (v3 0 2 0)],.agg (v3 2 (-2) 0)),
 (238,[.agg ([.int .i64 0,.int .i64 1,.bool false]),.agg (v3 0 2 0),.agg (v3 0 0 0),.agg (v3 2 0 0)],.int .i64 1),
 (189,[.agg (v3 2 2 0),.agg (v3 0 2 0)],.agg (v3 2 0 0)),
 (238,[.agg ([.int .i64 0,.int .i64 1,.bool false]),.agg (v3 0 2 0),.agg (v3 0 0 0),.agg (v3 2 2 0)],.int .i64 1),
 (181,[.agg (iC [0,0,1]),.bH 0 108 [v3 0 0 0,v3 0 2 0,v3 2 0 0,v3 2 2 0]],.bH 0 108 [v3 0 0 0,v3 2 0 0,v3 2 2 0,v3 0 2 0])]
def aIx:List Fact:=eC2.reverseAux aIw
theorem jj:rN Tryz.prog gv aIx:=rN.xW fit dZ pS oE eC2 ji (by kernel_rfl)
def eD0:List Fact:=[(69,[.agg (iC [0,0,1])],.agg (v3 0 0 1)),
 (254,[.agg (cI 16384)],.agg (cI 128)),
 (187,[.agg (iC [0,0,1]),.int .i64 500],.eZ [.agg (iC [1,0,0,0,1,0]),.agg (cR 1 2++cR 1 2)]),
 (69,[.agg (iC [1,0,0])],.agg (v3 1 0 0)),
 (188,[.agg (cR 1 2),.agg (v3 1 0 0)],.agg (cR 1 2++cR 0 1++cR 0 1)),
 (107,[.agg (v3 0 0 1),.agg (cR 1 2++cR 0 1++cR 0 1)],.agg (cR 1 2++cR 0 1++cR 1 1)),
 (189,[.agg (v3 0 0 1),.agg (cR 1 2++cR 0 1++cR 0 1)],.agg (cR (-1) 2++cR 0 1++cR 1 1)),
 (69,[.agg (iC [0,1,0])],.agg (v3 0 1 0)),
 (188,[.agg (cR 1 2),.agg (v3 0 1 0)],.agg (cR 0 1++cR 1 2++cR 0 1)),
 (107,[.agg (v3 0 0 1),.agg (cR 0 1++cR 1 2++cR 0 1)],.agg (cR 0 1++cR 1 2++cR 1 1)),
 (189,[.agg (v3 0 0 1),.agg (cR 0 1++cR 1 2++cR 0 1)],.agg (cR 0 1++cR (-1) 2++cR 1 1)),
 (139,[.agg (iC [0,0,1]),.int .i64 500],.eZ [.bH 0 108 [cR 1 2++cR 0 1++cR 1 1,cR (-1) 2++cR 0 1++cR 1 1,cR 0 1++cR 1 2++cR 1 1,cR 0 1++cR (-1) 2++cR 1 1],.int .i64 0])]
def aIy:List Fact:=eD0.reverseAux aIx
theorem jk:rN Tryz.prog gv aIy:=rN.xW fit dZ pS oE eD0 jj (by kernel_rfl)
def eD1:List Fact:=[(140,[.bH 0 108 [v3 0 0 0,v3 2 0 0,v3 2 2 0,v3 0 2 0]],.bool true),
 (140,[.bH 0 108 [v3 1 1 2,v3 9 1 0]],.bool true),
 (111,[.agg ([.int .i64 10,.bH 0 6 [bA],.bH 0 7 [p0],.bH 0 6 [[.int .i64 0,.int .i64 1,.int .i64 0,.int .i64 0,.int .i64 1,.bH 0 108 [v3 0 0 0,v3 2 0 0,v3 2 2 0,v3 0 2 0]]],.bH 0 1 [iC [500]],.bH 0 218 [iC [1,0]++v3 1 1 2++v3 9 1 0],.aF])],.int .i64 0)]
def aBp:List Fact:=eD1.reverseAux aIy
theorem jl:rN Tryz.prog gv aBp:=rN.xW fit dZ pS oE eD1 jk (by kernel_rfl)
end Go.Proofs.YtgggiembljfnhaaGreatDoor
namespace Go.Proofs.YtgggiembljfnhaaGreatDoor
open Go Go.Av
def XN:{x // GB Tryz.prog uH false Tryz.f135=some x}:=⟨_,cX⟩
theorem aBi:iM Tryz.prog uH false 135 XN.1:=gJ Tryz.func135 (by kernel_rfl) XN.2
def XO:{x // GB Tryz.prog uH false Tryz.f136=some x}:=⟨_,cX⟩
theorem aBj:iM Tryz.prog uH false 136 XO.1:=gJ Tryz.func136 (by kernel_rfl) XO.2
def XM:{x // GB Tryz.prog uH false Tryz.f110=some x}:=⟨_,xV⟩
theorem aBh:iM Tryz.prog uH false 110 XM.1:=gJ Tryz.func110 (by kernel_rfl) XM.2
def zp:{x // GB Tryz.prog uH false Tryz.f71=some x}:=⟨_,xV⟩
theorem aIn:iM Tryz.prog uH false 71 zp.1:=gJ Tryz.func71 (by kernel_rfl) zp.2
def zj:{x // GB Tryz.prog uH false Tryz.f30=some x}:=⟨_,xV⟩
theorem aIf:iM Tryz.prog uH false 30 zj.1:=gJ Tryz.func30 (by kernel_rfl) zj.2
def zo:{x // GB Tryz.prog uH false Tryz.f68=some x}:=⟨_,cX⟩
theorem aIm:iM Tryz.prog uH false 68 zo.1:=gJ Tryz.func68 (by kernel_rfl) zo.2
def W7T:{x // GB Tryz.prog uH false Tryz.f7=some x}:=⟨_,cX⟩
theorem aNl:iM Tryz.prog uH false 7 W7T.1:=gJ Tryz.func7 (by kernel_rfl) W7T.2
def yt:{x // GB Tryz.prog uH false Tryz.f25=some x}:=⟨_,cX⟩
theorem aHp:iM Tryz.prog uH false 25 yt.1:=gJ Tryz.func25 (by kernel_rfl) yt.2
def zn:{x // GB Tryz.prog uH false Tryz.f63=some x}:=⟨_,cX⟩
theorem aIl:iM Tryz.prog uH false 63 zn.1:=gJ Tryz.func63 (by kernel_rfl) zn.2
end Go.Proofs.YtgggiembljfnhaaGreatDoor
namespace Go.Proofs.YtgggiembljfnhaaGreatDoor
open Go Go.Av Go.aY
def aJj:FT:=.node 68 (.node 30 (.node 25 (.leaf 7 W7T.1) (.leaf 25 yt.1)) (.node 63 (.leaf 30 zj.1) (.leaf 63 zn.1))) (.node 110 (.node 71 (.leaf 68 zo.1) (.leaf 71 zp.1)) (.node 135 (.leaf 110 XM.1) (.node 136 (.leaf 135 XN.1) (.leaf 136 XO.1))))
theorem ZS:aJj.Wn fun f F=>∃mu,iM Tryz.prog uH mu f F:=⟨⟨⟨⟨_,aNl⟩,⟨_,aHp⟩⟩,⟨⟨_,aIf⟩,⟨_,aIl⟩⟩⟩,⟨⟨⟨_,aIm⟩,⟨_,aIn⟩⟩,⟨⟨_,aBh⟩,⟨⟨_,aBi⟩,⟨_,aBj⟩⟩⟩⟩⟩
def aNz:GO:=fun _ _ _=>none
theorem kv:FF Tryz.prog uH aNz:=fun _ _ _ _ _ h=>by cases h
theorem aBr:rN Tryz.prog uH aBp:=aCx jl (by kernel_rfl)
def eT:List Fact:=[(135,[.agg (p0),.agg ([Lt])],.agg (cR 0 1)),
 (136,[.agg (p0),.agg ([Lt])],.bH 0 108 [v3 0 0 0,v3 2 0 0,v3 2 2 0,v3 0 2 0]),
 (110,[.bH 0 6 [bA],.bH 0 7 [p0]],.eZ [.bH 0 6 [[.int .i64 0,.int .i64 1,.int .i64 0,.int .i64 0,.int .i64 1,.bH 0 108 [v3 0 0 0,v3 2 0 0,v3 2 2 0,v3 0 2 0]]],.int .i64 0]),
 (7,[],.bool true)]
theorem aBq:rN Tryz.prog uH (eT.reverseAux aBp):=rN.xW aDg Rz ZS kv eT aBr (by kernel_rfl)
theorem WS (H:aA):Sound Tryz.prog uH 7 [] H (.ret (.bool true)) H:=aBq _ Aq H
end Go.Proofs.YtgggiembljfnhaaGreatDoor
