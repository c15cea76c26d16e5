/-
  Part of the proof of statement 11
-/
import Derived.Test.YtgggiembljfnhaaGreatDoorA07
import Derived.Test.YtgggiembljfnhaaGreatDoorA19
import Derived.Test.YtgggiembljfnhaaGreatDoorA05
import Derived.Test.YtgggiembljfnhaaGreatDoorA06
import Derived.Test.YtgggiembljfnhaaGreatDoorA36
import Derived.Test.YtgggiembljfnhaaGreatDoorA25
import Derived.Test.YtgggiembljfnhaaGreatDoorA12
import Derived.Test.YtgggiembljfnhaaGreatDoorA14
import Derived.Test.YtgggiembljfnhaaGreatDoorA16
import Derived.Test.YtgggiembljfnhaaGreatDoorA20
import Derived.Test.YtgggiembljfnhaaGreatDoorA22
import Derived.Test.YtgggiembljfnhaaGreatDoorA24
import Derived.Test.YtgggiembljfnhaaGreatDoorA18
import Derived.Test.YtgggiembljfnhaaGreatDoorA26
set_option maxRecDepth 1000000
set_option maxHeartbeats 16000000
set_option linter.unusedVariables false
set_option linter.unusedSimpArgs false
namespace Go.Proofs.YtgggiembljfnhaaGreatDoor
open Go Go.Av
def W44:CW Tryz.f44:=⟨_,cX⟩
theorem bHb:Fi 44 W44:=cM Tryz.func44 W44
def W45:CW Tryz.f45:=⟨_,cX⟩
theorem bHc:Fi 45 W45:=cM Tryz.func45 W45
def aOc:CW Tryz.f235:=⟨_,cX⟩
theorem aZe:Fi 235 aOc:=cM Tryz.func235 aOc
def aOh:CW Tryz.f250:=⟨_,uJ⟩
theorem aZj:Fi 250 aOh:=cM Tryz.func250 aOh
def aOf:CW Tryz.f238:=⟨_,cX⟩
theorem aZh:Fi 238 aOf:=cM Tryz.func238 aOf
def aLq:CW Tryz.f139:=⟨_,uJ⟩
theorem aWs:Fi 139 aLq:=cM Tryz.func139 aLq
def aMs:CW Tryz.f187:=⟨_,uJ⟩
theorem aXu:Fi 187 aMs:=cM Tryz.func187 aMs
def aMr:CW Tryz.f186:=⟨_,cX⟩
theorem aXt:Fi 186 aMr:=cM Tryz.func186 aMr
def aMq:CW Tryz.f181:=⟨_,cX⟩
theorem aXs:Fi 181 aMq:=cM Tryz.func181 aMq
def aOe:CW Tryz.f237:=⟨_,cX⟩
theorem aZg:Fi 237 aOe:=cM Tryz.func237 aOe
def aNz:CW Tryz.f232:=⟨_,cX⟩
theorem aZb:Fi 232 aNz:=cM Tryz.func232 aNz
def aMo:CW Tryz.f178:=⟨_,cX⟩
theorem aXq:Fi 178 aMo:=cM Tryz.func178 aMo
def aLa:CW Tryz.f111:=⟨_,uJ⟩
theorem aWc:Fi 111 aLa:=cM Tryz.func111 aLa
def aLs:CW Tryz.f141:=⟨_,cX⟩
theorem aWu:Fi 141 aLs:=cM Tryz.func141 aLs
def aLr:CW Tryz.f140:=⟨_,cX⟩
theorem aWt:Fi 140 aLr:=cM Tryz.func140 aLr
def aLo:CW Tryz.f133:=⟨_,cX⟩
theorem aWq:Fi 133 aLo:=cM Tryz.func133 aLo
def aKz:CW Tryz.f109:=⟨_,cX⟩
theorem aWa:Fi 109 aKz:=cM Tryz.func109 aKz
def aPd:CW Tryz.f277:=⟨_,cX⟩
theorem bAf:Fi 277 aPd:=cM Tryz.func277 aPd
def aQb:CW Tryz.f323:=⟨_,cX⟩
theorem bBf:Fi 323 aQb:=cM Tryz.func323 aQb
def W70:CW Tryz.f70:=⟨_,cX⟩
theorem bHm:Fi 70 W70:=cM Tryz.func70 W70
def aMp:CW Tryz.f180:=⟨_,cX⟩
theorem aXr:Fi 180 aMp:=cM Tryz.func180 aMp
def aMk:CW Tryz.f174:=⟨_,cX⟩
theorem aXm:Fi 174 aMk:=cM Tryz.func174 aMk
def aMl:CW Tryz.f175:=⟨_,cX⟩
theorem aXn:Fi 175 aMl:=cM Tryz.func175 aMl
def aKy:CW Tryz.f108:=⟨_,cX⟩
theorem aVz:Fi 108 aKy:=cM Tryz.func108 aKy
def aLl:CW Tryz.f130:=⟨_,cX⟩
theorem aWn:Fi 130 aLl:=cM Tryz.func130 aLl
def aLm:CW Tryz.f131:=⟨_,uJ⟩
theorem aWo:Fi 131 aLm:=cM Tryz.func131 aLm
def aMm:CW Tryz.f176:=⟨_,cX⟩
theorem aXo:Fi 176 aMm:=cM Tryz.func176 aMm
def aNx:CW Tryz.f230:=⟨_,uJ⟩
theorem aYz:Fi 230 aNx:=cM Tryz.func230 aNx
def aPn:CW Tryz.f294:=⟨_,cX⟩
theorem bAq:Fi 294 aPn:=cM Tryz.func294 aPn
def aLp:CW Tryz.f134:=⟨_,cX⟩
theorem aWr:Fi 134 aLp:=cM Tryz.func134 aLp
def aOl:CW Tryz.f255:=⟨_,cX⟩
theorem aZn:Fi 255 aOl:=cM Tryz.func255 aOl
def W26:CW Tryz.f26:=⟨_,cX⟩
theorem bGp:Fi 26 W26:=cM Tryz.func26 W26
def aPk:CW Tryz.f291:=⟨_,cX⟩
theorem bAn:Fi 291 aPk:=cM Tryz.func291 aPk
def aMu:CW Tryz.f189:=⟨_,cX⟩
theorem aXw:Fi 189 aMu:=cM Tryz.func189 aMu
def aNy:CW Tryz.f231:=⟨_,cX⟩
theorem aZa:Fi 231 aNy:=cM Tryz.func231 aNy
def aOi:CW Tryz.f252:=⟨_,uJ⟩
theorem aZk:Fi 252 aOi:=cM Tryz.func252 aOi
def aOj:CW Tryz.f253:=⟨_,cX⟩
theorem aZl:Fi 253 aOj:=cM Tryz.func253 aOj
def aOk:CW Tryz.f254:=⟨_,cX⟩
theorem aZm:Fi 254 aOk:=cM Tryz.func254 aOk
def aPi:CW Tryz.f289:=⟨_,cX⟩
theorem bAk:Fi 289 aPi:=cM Tryz.func289 aPi
def aPo:CW Tryz.f301:=⟨_,cX⟩
theorem bAr:Fi 301 aPo:=cM Tryz.func301 aPo
def aPh:CW Tryz.f285:=⟨_,cX⟩
theorem bAj:Fi 285 aPh:=cM Tryz.func285 aPh
end Go.Proofs.YtgggiembljfnhaaGreatDoor
namespace Go.Proofs.YtgggiembljfnhaaGreatDoor
open Go Go.Av Go.uG
def aQz:AV->Option Nat
 |.int .u32 n=>match Nat.blt n.natAbs W&&decide ((n.natAbs:Int)=n) with
  |true=>some n.natAbs
  |false=>none
 |_=>none
theorem aEd {x:AV} {a:Nat} (h:aQz x=some a):x=.int .u32 (a:Nat)/\a<W:=by
 unfold aQz at h;split at h
 . split at h
   . rename_i n hc;cases h;simp only[Al,Bd] at hc;exact⟨by rw[hc.2],by simpa using hc.1⟩
   cases h
 cases h
def aEc:List AV->Option (List Nat)
 |[]=>some []
 |x::r=>match aQz x,aEc r with
  |some a,some l=>some (a::l)
  |_,_=>none
theorem ZL:∀{v:List AV} {l:List Nat},aEc v=some l->v=wC l/\∀d∈l,d<W
 |[],l,h=>by cases h;exact⟨rfl,fun d hd=>by cases hd⟩
 |x::r,l,h=>by
  simp only[aEc] at h;split at h
  . rename_i a l' ha oU;cases h;obtain⟨h1,h2⟩:=ZL oU;obtain⟨h3,h4⟩:=aEd ha;refine⟨by rw[h1,h3];rfl,fun d hd=>?_⟩
    rcases Am.1 hd with rfl|hd
    . exact h4
    exact h2 d hd
  cases h
def NS:List AV->Option (Option Int)
 |.bool b::.bool n::r=>match aEc r with
  |some l=>match Nat.beq l.length 16 with
   |true=>some (Py b n l)
   |false=>none
  |none=>none
 |_=>none
theorem sD {v:List AV} {x:Option Int} (h:NS v=some x):mA v x:=by
 unfold NS at h;split at h
 . rename_i b n r;split at h
   . rename_i l hl;split at h
     . rename_i hc;cases h;obtain⟨h1,h2⟩:=ZL hl;exact⟨b,n,l,⟨Be hc,h2⟩,by rw[h1],rfl⟩
     cases h
   cases h
 cases h
def km (g:Option Int->AV):List AV->Option AV
 |[.agg a]=>match NS a with
  |some x=>some (g x)
  |none=>none
 |_=>none
def ko (g:Option Int->Option Int->AV):List AV->Option AV
 |[.agg a,.agg b]=>match NS a,NS b with
  |some x,some y=>some (g x y)
  |_,_=>none
 |_=>none
theorem MW {g:Option Int->AV} {f:FuncId} (hS:∀a x,mA a x->∀H,Sg f [.agg a] H (.ret (g x)) H) {args:List AV} {v:AV} (h:km g args=some v) (H:aA):Sg f args H (.ret v) H:=by
 unfold km at h;split at h
 . rename_i a;split at h
   . rename_i x hx;cases h;exact hS a x (sD hx) H
   cases h
 cases h
theorem MX {g:Option Int->Option Int->AV} {f:FuncId} (hS:∀a b x y,mA a x->mA b y->∀H,Sg f [.agg a,.agg b] H (.ret (g x y)) H) {args:List AV} {v:AV} (h:ko g args=some v) (H:aA):Sg f args H (.ret v) H:=by
 unfold ko at h;split at h
 . rename_i a b;split at h
   . rename_i x y hx hy;cases h;exact hS a b x y (sD hx) (sD hy) H
   cases h
 cases h
def zn:List AV->Option AV
 |[.int .i64 z]=>match decide (-2^63<=z)&&decide (z<2^63) with
  |true=>some (.agg (cI z))
  |false=>none
 |_=>none
theorem zo {args:List AV} {v:AV} (h:zn args=some v) (H:aA):Sg 128 args H (.ret v) H:=by
 unfold zn at h;split at h
 . rename_i z;split at h
   . rename_i hc;cases h;simp only[Al,Bd] at hc;exact Mp hc.1 hc.2 H
   cases h
 cases h
def aTi (f:FuncId) (args:List AV):Option AV:=
 match Nat.beq f 128 with
 |true=>zn args
 |false=>match Nat.beq f 172 with
 |true=>ko (fun x y=>.agg (cO (Wh x y))) args
 |false=>match Nat.beq f 281 with
 |true=>ko (fun x y=>.agg (cO (Wh x (Xs y)))) args
 |false=>match Nat.beq f 173 with
 |true=>ko (fun x y=>.agg (cO (Xr x y))) args
 |false=>match Nat.beq f 222 with
 |true=>km (fun x=>.agg (cO (Xs x))) args
 |false=>match Nat.beq f 226 with
 |true=>km (fun x=>.agg (cO (aUb x))) args
 |false=>match Nat.beq f 177 with
 |true=>km (fun x=>.int .i64 (yT x)) args
 |false=>match Nat.beq f 126 with
 |true=>ko (fun x y=>.int .i64 (rL x y)) args
 |false=>match Nat.beq f 215 with
 |true=>km (fun x=>.iA [.int .i64 (qH x).1,.bool (qH x).2]) args
 |false=>none
theorem aGp {f:FuncId} {args:List AV} {v:AV} (h:aTi f args=some v) (H:aA):Sg f args H (.ret v) H:=by
 unfold aTi at h;split at h
 . rename_i hf;obtain rfl:=Be hf;exact zo h H
 split at h
 . rename_i hf;obtain rfl:=Be hf;exact MX (fun a b x y ha hb H=>p9 ha hb H) h H
 split at h
 . rename_i hf;obtain rfl:=Be hf;exact MX (fun a b x y ha hb H=>aKs ha hb H) h H
 split at h
 . rename_i hf;obtain rfl:=Be hf;exact MX (fun a b x y ha hb H=>aKq ha hb H) h H
 split at h
 . rename_i hf;obtain rfl:=Be hf;exact MW (fun a x ha H=>Wd ha H) h H
 split at h
 . rename_i hf;obtain rfl:=Be hf;exact MW (fun a x ha H=>aKl ha H) h H
 split at h
 . rename_i hf;obtain rfl:=Be hf;exact MW (fun a x ha H=>MF ha H) h H
 split at h
 . rename_i hf;obtain rfl:=Be hf;exact MX (fun a b x y ha hb H=>aKm ha hb H) h H
 split at h
 . rename_i hf;obtain rfl:=Be hf;exact MW (fun a x ha H=>Mr ha H) h H
 cases h
attribute [local congr] aT aI aM aH aW aQ aN aF aX
attribute [local irreducible] FC bS eG
theorem Vy {z:Int} (h:z.natAbs<2^64):bL z.natAbs 1*4294967296+bL z.natAbs 0=z.natAbs:=by
 have hW:W=4294967296:=rfl;have h2:bL z.natAbs 0=z.natAbs%W:=by simp[bL]
 have h3:bL z.natAbs 1=z.natAbs / W:=by unfold bL;rw[Nat.pow_one,hW,Dl (by omega)]
 rw[h2,h3,Dg];exact Fe _ _
theorem aBp {a:Nat} (h:a<2^64):sz a<=2:=by
 rcases Me 16 a with h0|h0
 . unfold sz;omega
 refine Nat.not_lt.1 fun h3=>h0 ?_;unfold sz at h3;unfold bL;have :W^2<=W^(cq 16 a -1):=Ds (by decide) (by omega);have hW:W^2=2^64:=rfl;rw[Eg (by omega)];rfl
theorem JR {a b:List AV} {x y:Int} (ha:mA a (some x)) (hb:mA b (some y)) (hx:x.natAbs<2^64) (hy:y.natAbs<2^64) (H:aA):
 Sg 170 [.agg a,.agg b] H (.ret (.agg (cI (Int.gcd x y)))) H:=by
 refine Sp aXj ZaB Zav ?_ H;unfold aMh;dsimp only;have hg:=AL ha hb;have s1:=JC x.natAbs;have s2:=JC y.natAbs;have la:=ha.len;have lb:=hb.len;obtain⟨rfl,hz⟩:=ha.some;obtain⟨rfl,hz'⟩:=hb.some;refine bQ ?_;simp only[↓zP,zJ,Nat.reduceLT,Nat.reduceEqDiff,Nat.reduceAdd];refine fD ?_;simp only[↓zP,zJ,Nat.reduceLT,Nat.reduceEqDiff,Nat.reduceAdd,oL la,oL lb];refine bZ (hg _) ?_;simp only[↓zP,zJ,Nat.reduceLT,Bc,Cv];refine bR ?_;have JI:(AV.bool false::AV.bool false::wC zs).length=18:=by simp[dM];rfl
 have mC:∀z,(cI z).length=18:=fun z=>dY z;generalize hX:(((aA.mk 0 .nil).alloc _).alloc _).alloc _=HA;have g0:HA.get 0=some (.cells (cI x) false):=by subst hX;simp only[zI,Nat.reduceAdd,Nat.reduceEqDiff]
 have g1:HA.get 1=some (.cells (cI y) false):=by subst hX;simp only[zI,Nat.reduceAdd,Nat.reduceEqDiff]
 have g2:HA.get 2=some (.cells (AV.bool false::AV.bool false::wC zs) false):=by subst hX;simp only[zI,Nat.reduceAdd,Nat.reduceEqDiff]
 clear hX;refine bY fun f hf=>?_;have f2:f 2=.ref 0 0:=by subst hf;simp only[zB,Nat.reduceEqDiff]
 have f3:f 3=.ref 1 0:=by subst hf;simp only[zB,Nat.reduceEqDiff]
 have f4:f 4=.ref 2 0:=by subst hf;simp only[zB,Nat.reduceEqDiff]
 clear hf;have lx:=iL (.bJ x.natAbs);have ly:=iL (.bJ y.natAbs);have dx:(cI x).drop 2=wC (bJ 16 x.natAbs):=rfl;have dy:(cI y).drop 2=wC (bJ 16 y.natAbs):=rfl;refine aJ fun K hK=>?_;simp only[↓zP,zJ,Nat.reduceLT,Nat.reduceEqDiff,Nat.reduceAdd,Nat.reduceLeDiff,f2,g0,oL la,dx,lx];refine bZ (s1 _) ?_;have e1:decide (((sz x.natAbs:Nat):Int)<=2)=true:=Aj (by have :=aBp hx;omega);have e2:decide (((sz y.natAbs:Nat):Int)<=2)=true:=Aj (by have :=aBp hy;omega);simp only[↓zP,zJ,Nat.reduceLT,Nat.reduceEqDiff,Nat.reduceAdd,f3,g1,oL lb,dy,ly,e1];refine bZ (s2 _) ?_;simp only[↓zP,zJ,Nat.reduceLT,Nat.reduceEqDiff,e2];refine Dz ?_;have h0:=jP x.natAbs 0;have h1:=jP x.natAbs 1;have k0:=jP y.natAbs 0;have k1:=jP y.natAbs 1;have hW:W=4294967296:=rfl;have p0:(cI x).getD 2 aC=.int .u32 (bL x.natAbs 0:Nat):=lE (a:=x.natAbs) (i:=0) (by decide);have p1:(cI x).getD 3 aC=.int .u32 (bL x.natAbs 1:Nat):=lE (a:=x.natAbs) (i:=1) (by decide);have q0:(cI y).getD 2 aC=.int .u32 (bL y.natAbs 0:Nat):=lE (a:=y.natAbs) (i:=0) (by decide);have q1:(cI y).getD 3 aC=.int .u32 (bL y.natAbs 1:Nat):=lE (a:=y.natAbs) (i:=1) (by decide);have w0:IntKind.u64.wrap ((bL x.natAbs 0:Nat):Int)=(bL x.natAbs 0:Nat):=rW (by omega) (.inl rfl);have w1:IntKind.u64.wrap ((bL x.natAbs 1:Nat):Int)=(bL x.natAbs 1:Nat):=rW (by omega) (.inl rfl);have v0:IntKind.u64.wrap ((bL y.natAbs 0:Nat):Int)=(bL y.natAbs 0:Nat):=rW (by omega) (.inl rfl);have v1:IntKind.u64.wrap ((bL y.natAbs 1:Nat):Int)=(bL y.natAbs 1:Nat):=rW (by omega) (.inl rfl);have ox:=aTg h1 h0;have oy:=aTg k1 k0;rw[Vy hx] at ox;rw[Vy hy] at oy;simp only[↓zP,zJ,Nat.reduceLT,Nat.reduceEqDiff,Nat.reduceAdd,zD,reduceCtorEq,Nat.reduceLeDiff,Int.reduceLT,f2,f3,g0,g1,oL la,oL lb,sP,p0,p1,q0,q1,w0,w1,v0,v1,ox,oy];refine bY fun f' hf=>?_;have SH:f' 4=.ref 2 0:=by subst hf;simp only[zB,Nat.reduceEqDiff];exact f4
 have f5:f' 5=.int .u64 (x.natAbs:Nat):=by subst hf;simp only[zB,Nat.reduceEqDiff]
 have f6:f' 6=.int .u64 (y.natAbs:Nat):=by subst hf;simp only[zB]
 clear hf f2 f3 f4;refine aL (iM [5,6] (fun m vs H'=>H'=HA/\∃a b:Nat,vs=[.int .u64 (a:Nat),.int .u64 (b:Nat)]/\a<2^64/\b<2^64/\m=b/\Nat.gcd a b=Nat.gcd x.natAbs y.natAbs) y.natAbs (by rfl) ?_ ?_)
 . exact⟨rfl,_,_,by simp only[sm,f5,f6],hx,hy,rfl,rfl⟩
 rintro b f H1 hk ⟨rfl,a,_,hv,hx1,hy1,rfl,hgc⟩;simp only[zM] at hv;obtain⟨h5,h6⟩:=hv;have f4:f 4=.ref 2 0:=by rw[hk 4 rfl];exact SH
 by_cases XS:b=0
 . subst XS;have e0:(((0:Nat):Int) != 0)=false:=rfl;have ea:a=Int.gcd x y:=by rw[Nat.gcd_zero_right] at hgc;exact hgc
   have l2:=RC hx1;have hl:=Rt.bJ a;have q0:((a%W:Nat):Int)=(bL a 0:Nat):=(by simp[bL]);have q1:((a / W%W:Nat):Int)=(bL a 1:Nat):=(by simp[bL]);have MJ:1<=(List.drop 1 (wC zs)).length:=(by decide);have hse:=oE (n:=false) (m:=a) (Df hx1 (by decide)) (z:=(a:Int)) rfl;simp only[↓zP,zJ,Nat.reduceLT,Nat.reduceEqDiff,Nat.reduceAdd,Nat.reduceLeDiff,Int.reduceLT,h5,h6,e0,Yw,NW,q0,q1,l2,MJ];refine bZ (hse _) ?_;simp only[↓zP,zJ,Nat.reduceEqDiff,f4,g2,mC,JI,oL JI];refine⟨rfl,_,by simp only[↓zP,zR,Nat.reduceEqDiff,f4,g2,mC,oL (mC _)];rfl,?_⟩;rw[ea];rfl
 have e0:(((b:Nat):Int) != 0)=true:=De.2 (by omega);have bEa:¬((b:Nat):Int)=0:=by omega
 simp only[↓zP,zJ,Nat.reduceLT,h6,e0];refine aL ?_;refine Dz ?_;simp only[↓zP,zJ,Nat.reduceLT,Nat.reduceEqDiff,Nat.reduceAdd,zD,reduceCtorEq,h5,h6,bEa];have ht:Int.tmod (a:Int) (b:Int)=((a%b:Nat):Int):=rfl;have fF:a%b<b:=Di _ (by omega);have hwm:IntKind.u64.wrap ((a%b:Nat):Int)=((a%b:Nat):Int):=rW (by omega) (.inl rfl);rw[ht];exact⟨_,fF,b,a%b,rfl,hy1,by omega,rfl,by rw[Hx,<-Nat.gcd_rec,Hx,hgc]⟩
def EP (x y:Int):Int×Int:=if(!decide (x.tmod y=0)&&(decide (x.tmod y<0) != decide (y<0)))=true then(x.tdiv y -1,x.tmod y+y) else(x.tdiv y,x.tmod y)
theorem tdiv_le (x y:Int):(x.tdiv y).natAbs<=x.natAbs:=by rw[Int.natAbs_tdiv];exact Jr _ _
theorem aHo (x:Int) {y:Int} (h:y≠0):(x.tmod y).natAbs<y.natAbs:=by rw[Int.natAbs_tmod];exact Di _ (by omega)
theorem DK {a b:List AV} {x y:Int} (ha:mA a (some x)) (hb:mA b (some y)) (xn: -2^63<x) (hx1:x<2^63) (MQ: -2^63<y) (hy1:y<2^63) (hy:y≠0) (H:aA):
 Sg 227 [.agg a,.agg b] H (.ret (.iA [.agg (cI (EP x y).1),.agg (cI (EP x y).2)])) H:=by
 refine Sp aYw ZaB Zav ?_ H;unfold aNu;dsimp only;have hg:=AL ha hb;have hs:=MF hb;have h1:=Mr ha;have h2:=Mr hb;have e1:qH (some x)=(x,true):=by simp only[qH];rw[if_pos (by omega)]
 have e2:qH (some y)=(y,true):=by simp only[qH];rw[if_pos (by omega)]
 rw[e1] at h1;rw[e2] at h2
 have hsg:(yT (some y)==0)=false:=by simp only[yT];split<;>(try split)<;>first|rfl|omega
 have hq:=tdiv_le x y;have hr:=aHo x hy;have wq:IntKind.i64.wrap (x.tdiv y)=x.tdiv y:=wrap_i64 (by omega) (by omega);have wr:IntKind.i64.wrap (x.tmod y)=x.tmod y:=wrap_i64 (by omega) (by omega);have la:=ha.len;have lb:=hb.len;have nx:(x != -9223372036854775808)=true:=De.2 (by omega);have ny:(y != -9223372036854775808)=true:=De.2 (by omega);refine bQ ?_;refine Ty ?_;refine bR ?_;have JI:(AV.bool false::AV.bool false::wC zs).length=18:=by simp[dM];rfl
 have mC:∀z,(cI z).length=18:=fun z=>dY z;generalize hX:((((aA.mk 0 .nil).alloc _).alloc _).alloc _).alloc _=HA;have g0:HA.get 0=some (.cells a false):=by subst hX;simp only[zI,seval]
 have g1:HA.get 1=some (.cells b false):=by subst hX;simp only[zI,seval]
 have g2:HA.get 2=some (.cells (AV.bool false::AV.bool false::wC zs) false):=by subst hX;simp only[zI,seval]
 have g3:HA.get 3=some (.cells (AV.bool false::AV.bool false::wC zs) false):=by subst hX;simp only[zI,seval]
 clear hX;refine bQ ?_;simp only[↓zP,zJ,seval,g0,g1,oL la,oL lb];refine bZ (hg _) ?_;simp only[↓zP,zJ,seval,g1,oL lb,Bc,Cv];refine bZ (hs _) ?_;simp only[↓zP,zG,seval,hsg];refine bR ?_;refine aJ fun K hK=>?_;refine bQ ?_;simp only[↓zP,zJ,seval,g0,oL la];refine bZ (h1 _) ?_;refine Ty ?_;refine bR ?_;clear hK;refine bY fun f hf=>?_;have f3:f 3=.ref 1 0:=by subst hf;simp only[zB,seval]
 have f4:f 4=.ref 2 0:=by subst hf;simp only[zB,seval]
 have f5:f 5=.ref 3 0:=by subst hf;simp only[zB,seval]
 have f6:f 6=.int .i64 x:=by subst hf;simp only[zB,seval]
 have f7:f 7=.bool true:=by subst hf;simp only[zB,seval]
 clear hf;refine bQ ?_;simp only[↓zP,zG,seval,f6,f7,nx];refine bR ?_;simp only[↓zP,zJ,seval,f3,g1,oL lb];refine bZ (h2 _) ?_;simp only[↓zP,zJ,seval,ny];refine bY fun f' hf=>?_;have SH:=Ks hf f4;have XI:=Ks hf f5;have f6':=Ks hf f6;have f8':f' 8=.int .i64 y:=by subst hf;simp only[zB,seval]
 clear hf f3 f4 f5 f6 f7;refine Dz ?_
 have Zf:EP x y=if(!decide (x.tmod y=0)&&(decide (x.tmod y<0) != decide (y<0)))=true then(x.tdiv y -1,x.tmod y+y) else(x.tdiv y,x.tmod y):=rfl
 have oq:=Mp (z:=x.tdiv y) (by omega) (by omega);have or:=Mp (z:=x.tmod y) (by omega) (by omega);have oq1:∀H,Sg 128 [.int .i64 (x.tdiv y -1)] H (.ret (.agg (cI (x.tdiv y -1)))) H:=Mp (by omega) (by omega);have wq1:IntKind.i64.wrap (x.tdiv y -1)=x.tdiv y -1:=wrap_i64 (by omega) (by omega);by_cases c0:x.tmod y=0
 . have hn:(x.tmod y != 0)=false:=by simp[c0]
   rw[Aj c0] at Zf;simp only[↓zP,zJ,seval,zD,f6',f8',hy,wq,hn];refine bZ (oq _) ?_;refine Tz ?_;refine bZ (or _) ?_;exact Zaj
 have hn:(x.tmod y != 0)=true:=De.2 c0;rw[Ag c0] at Zf;by_cases cA:x.tmod y<0
 . have hA:=Aj cA;rw[hA] at Zf;by_cases cB:y<0
   . have hB:=Aj cB;rw[hB] at Zf;simp only[↓zP,zJ,seval,zD,f6',f8',hy,wq,hn,hA,hB];refine bZ (oq _) ?_;refine Tz ?_;refine bZ (or _) ?_;exact Zaj
   have hB:=Ag cB;rw[hB] at Zf;have or1:∀H,Sg 128 [.int .i64 (x.tmod y+y)] H (.ret (.agg (cI (x.tmod y+y)))) H:=Mp (by omega) (by omega);have wr1:IntKind.i64.wrap (x.tmod y+y)=x.tmod y+y:=wrap_i64 (by omega) (by omega);simp only[↓zP,zJ,seval,zD,f6',f8',hy,wq,hn,hA,hB,wq1,wr1];refine bZ (oq1 _) ?_;refine Tz ?_;refine bZ (or1 _) ?_;exact Zaj
 have hA:=Ag cA;rw[hA] at Zf;by_cases cB:y<0
 . have hB:=Aj cB;rw[hB] at Zf;have or1:∀H,Sg 128 [.int .i64 (x.tmod y+y)] H (.ret (.agg (cI (x.tmod y+y)))) H:=Mp (by omega) (by omega);have wr1:IntKind.i64.wrap (x.tmod y+y)=x.tmod y+y:=wrap_i64 (by omega) (by omega);simp only[↓zP,zJ,seval,zD,f6',f8',hy,wq,hn,hA,hB,wq1,wr1];refine bZ (oq1 _) ?_;refine Tz ?_;refine bZ (or1 _) ?_;exact Zaj
 have hB:=Ag cB;rw[hB] at Zf;simp only[↓zP,zJ,seval,zD,f6',f8',hy,wq,hn,hA,hB];refine bZ (oq _) ?_;refine Tz ?_;refine bZ (or _) ?_;exact Zaj
theorem JT {a b:List AV} {x y:Int} (ha:mA a (some x)) (hb:mA b (some y)) (xn: -2^63<x) (hx1:x<2^63) (MQ: -2^63<y) (hy1:y<2^63) (hy:y≠0) (H:aA):
 Sg 171 [.agg a,.agg b] H (.ret (.agg (cI (EP x y).1))) H:=by
 refine Sp aXk ZaB Zav ?_ H;unfold aMi;exact Zak
theorem eo {a b:List AV} {x y:Int} (ha:mA a (some x)) (hb:mA b (some y)) (xn: -2^63<x) (hx1:x<2^63) (MQ: -2^63<y) (hy1:y<2^63) (hy:y≠0) (H:aA):
 Sg 290 [.agg a,.agg b] H (.ret (.agg (cI (EP x y).2))) H:=by
 refine Sp bAm ZaB Zav ?_ H;unfold aPj;exact Zak
def TO (x y:Int):Bool:=decide (-2^63<x)&&decide (x<2^63)&&decide (-2^63<y)&&decide (y<2^63)&& !decide (y=0)
def aGk (g:Int×Int->AV):List AV->Option AV
 |[.agg a,.agg b]=>match NS a,NS b with
  |some (some x),some (some y)=>match TO x y with
   |true=>some (g (EP x y))
   |false=>none
  |_,_=>none
 |_=>none
theorem bm {g:Int×Int->AV} {f:FuncId} (hS:∀a b x y,mA a (some x)->mA b (some y)->-2^63<x->x<2^63->-2^63<y->y<2^63->y≠0->∀H,Sg f [.agg a,.agg b] H (.ret (g (EP x y))) H) {args:List AV} {v:AV} (h:aGk g args=some v) (H:aA):Sg f args H (.ret v) H:=by
 unfold aGk at h;split at h
 . rename_i a b;split at h
   . rename_i x y hx hy;split at h
     . rename_i hc;cases h;simp only[TO,Al,Cn,Bd,Bh] at hc;obtain⟨⟨⟨⟨c1,c2⟩,c3⟩,c4⟩,c5⟩:=hc;exact hS a b x y (sD hx) (sD hy) c1 c2 c3 c4 c5 H
     cases h
   cases h
 cases h
def aTh (f:FuncId) (args:List AV):Option AV:=
 match Nat.beq f 171 with
 |true=>aGk (fun d=>.agg (cI d.1)) args
 |false=>match Nat.beq f 290 with
 |true=>aGk (fun d=>.agg (cI d.2)) args
 |false=>aTi f args
theorem aGo {f:FuncId} {args:List AV} {v:AV} (h:aTh f args=some v) (H:aA):Sg f args H (.ret v) H:=by
 unfold aTh at h;split at h
 . rename_i hf;obtain rfl:=Be hf;exact bm (fun a b x y ha hb h1 h2 h3 h4 h5 H=>JT ha hb h1 h2 h3 h4 h5 H) h H
 split at h
 . rename_i hf;obtain rfl:=Be hf;exact bm (fun a b x y ha hb h1 h2 h3 h4 h5 H=>eo ha hb h1 h2 h3 h4 h5 H) h H
 exact aGp h H
def cR (n d:Int):List AV:=cI n++cI d
theorem so (n d:Int):(cR n d).length=36:=by rw[cR,Ba,dY,dY]
theorem aDp (n d:Int):(cR n d).take 18=cI n:=by rw[cR,Cl (by rw[dY];decide)];exact(oL (dY n)).2.1
theorem aDo (n d:Int):(cR n d).drop 18=cI d:=by rw[cR,Il (by rw[dY];decide),(oL (dY n)).2.2,Dc]
theorem ZE (n d:Int):bO (cR n d)=true:=by rw[cR,gY,dG,dG];rfl
theorem CO {a:List AV} {x:Int} (ha:mA a (some x)) (H:aA):Sg 221 [.agg a] H (.ret (.bool true)) H:=by
 refine So aYs (by simp only[sf,ha.free]) ?_ H;unfold aNq;dsimp only;have la:=ha.len;obtain⟨rfl,hz⟩:=ha.some
 have hv:∀H,Sg 219 [.agg (cI x)] H (.ret (.bool true)) H:=fun H=>by
  have :=Tu false (decide (x<0)) (.bJ x.natAbs) H
  have e:(!decide (bJ 16 x.natAbs=zs)|| !decide (x<0))=true:=by
   by_cases h:x<0
   . have :decide (bJ 16 x.natAbs=zs)=false:=(by rw[Ag];rw[AS hz];omega);rw[this];rfl
   rw[Ag h];simp
  rw[if_neg (by decide),e] at this;exact this
 have e0:(cI x).getD 0 aC=.bool false:=rfl;simp only[↓zP,zJ,seval,la,e0];refine bZ (hv _) ?_;refine Tz ?_;refine Rx ?_;rfl
theorem aAw (H:aA):Sg 166 [] H (.ret (.agg (cI 1))) H:=by refine Sp aJo Zah Zav ?_ H;unfold aCr;dsimp only;refine Ty ?_;refine bZ (Mp (z:=1) (by decide) (by decide) _) ?_;refine Ty ?_;refine Rx ?_;rfl
theorem mr {n d:Int} (hn:n.natAbs<2^64) (hd:d.natAbs<2^64) (hp:0<d) (hg:Int.gcd n d=1) (H:aA):Sg 168 [.agg (cR n d)] H (.ret (.bool true)) H:=by
 refine So aXi (by simp only[sf,ZE]) ?_ H;unfold aMg;dsimp only;have wn:n.natAbs<W^16:=Df hn (by decide);have wd:d.natAbs<W^16:=Df hd (by decide);have g1:=CO (.enc wn);have g2:=CO (.enc wd);have sg:=MF (.enc wd);have gc:=JR (.enc wn) (.enc wd) hn hd;rw[hg] at gc
 have e1:decide (yT (some d)>0)=true:=by simp only[yT];split<;>(try split)<;>first|omega|rfl
 have l1:=so n d;have l2:=aDp n d;have l3:=aDo n d;have mC:∀z,(cI z).length=18:=fun z=>dY z;have eqq:cK [.b,.b,.i,.i,.i,.i,.i,.i,.i,.i,.i,.i,.i,.i,.i,.i,.i,.i] (cI 1) (cI 1)=some true:=by rfl
 simp only[↓zP,zJ,seval,l1,l2];refine bZ (g1 _) ?_;simp only[↓zP,zJ,seval,l1,l3,oL (mC _)];refine bZ (g2 _) ?_;simp only[↓zP,zJ,seval,l1,l3,oL (mC _)];refine bZ (sg _) ?_;simp only[↓zP,zJ,seval,l1,l2,l3,oL (mC _),e1];refine bZ (gc _) ?_;refine Tz ?_;refine bZ (aAw _) ?_;simp only[↓zP,zG,seval,eqq];refine Rx ?_;rfl
def wS (n d:Int):Int:=if d<0 then -(Int.gcd n d:Int) else(Int.gcd n d:Int)
theorem mw {a b:List AV} {n d:Int} (ha:mA a (some n)) (hb:mA b (some d)) (Xc: -2^63<n) (KN:n<2^63) (hd0: -2^63<d) (MJ:d<2^63) (hd:d≠0) (H:aA):
 Sg 165 [.agg a,.agg b] H (.ret (.agg (cR (EP n (wS n d)).1 (EP d (wS n d)).1))) H:=by
 refine Sp aXh ZaB (by simp only[sf,ZE]) ?_ H;unfold aMf;dsimp only;have g1:=CO ha;have g2:=CO hb;have sg:=MF hb;have gc:=JR ha hb (by omega) (by omega);have la:=ha.len;have lb:=hb.len;have mC:∀z,(cI z).length=18:=fun z=>dY z;have JI:(AV.bool false::AV.bool false::wC zs).length=18:=by simp[dM];rfl
 have hgz:(Int.gcd n d)≠0:=fun h=>hd (Int.gcd_eq_zero_iff.1 h).2;have hgl:Int.gcd n d<=d.natAbs:=Nat.gcd_le_right _ (by omega)
 have e1:(yT (some d)==0)=false:=by simp only[yT];split<;>(try split)<;>first|rfl|omega
 have e2:decide (yT (some d)<0)=decide (d<0):=by rw[Bs];simp only[yT];split<;>(try split)<;>omega
 have hwg:(Int.gcd n d:Int).natAbs<W^16:=Df (show(Int.gcd n d:Int).natAbs<2^63 by omega) (by decide);have ng:=Wd (.enc hwg);have hwm:(wS n d).natAbs<W^16:=by unfold wS;split<;>omega
 have MO:wS n d≠0:=by unfold wS;split<;>omega
 have eC: -2^63<wS n d:=by unfold wS;split<;>omega
 have fV:wS n d<2^63:=by unfold wS;split<;>omega
 have q1:=JT ha (.enc hwm) Xc KN eC fV MO;have q2:=JT hb (.enc hwm) hd0 MJ eC fV MO;refine bQ ?_;refine Ty ?_;refine bR ?_;generalize hX:(((aA.mk 0 .nil).alloc _).alloc _).alloc _=HA;have hn3:HA.next=3:=by subst hX;rfl
 have EW:HA.get 0=some (.cells a false):=by subst hX;simp only[zI,seval]
 have XO:HA.get 1=some (.cells b false):=by subst hX;simp only[zI,seval]
 obtain⟨zz,je,z36⟩:∃zz,HA.get 2=some (.cells zz false)/\zz.length=36:=by subst hX;refine⟨_,by simp only[zI,seval];rfl,?_⟩;rfl
 clear hX;refine bQ ?_;simp only[↓zP,zJ,seval,EW,oL la];refine bZ (g1 _) ?_;simp only[↓zP,zJ,seval,XO,oL lb];refine bZ (g2 _) ?_;simp only[↓zP,zJ,seval,XO,oL lb];refine bZ (sg _) ?_;simp only[↓zP,zG,seval,e1];refine bR ?_;refine bY fun f hf=>?_;have f2:f 2=.ref 0 0:=by subst hf;simp only[zB,seval]
 have f3:f 3=.ref 1 0:=by subst hf;simp only[zB,seval]
 have f4:f 4=.ref 2 0:=by subst hf;simp only[zB,seval]
 clear hf;refine bQ ?_;simp only[↓zP,zJ,seval,f2,f3,EW,XO,oL la,oL lb];refine bZ (gc _) ?_;simp only[↓zP,zJ,seval,hn3,mC,JI,oL JI];refine bR ?_;generalize hX:(HA.alloc _).set 3 _=HB;have h0:HB.get 0=some (.cells a false):=by subst hX;simp only[zI,seval,hn3,EW]
 have h1:HB.get 1=some (.cells b false):=by subst hX;simp only[zI,seval,hn3,XO]
 have h2:HB.get 2=some (.cells zz false):=by subst hX;simp only[zI,seval,hn3,je]
 have h3:HB.get 3=some (.cells (cI (Int.gcd n d)) false):=by subst hX;simp only[zI,seval]
 clear hX EW XO je hn3 HA;refine bY fun f' hf=>?_;have f2':=Ks hf f2;have f3':=Ks hf f3;have SH:=Ks hf f4;have XI:f' 5=.ref 3 0:=by subst hf;simp only[zB,seval]
 clear hf f2 f3 f4 f;refine aJ fun K hK=>?_
 have key:∀(f:dE) (HC:aA),f 2=.ref 0 0->f 3=.ref 1 0->f 4=.ref 2 0->f 5=.ref 3 0->HC.get 0=some (.cells a false)->HC.get 1=some (.cells b false)->HC.get 2=some (.cells zz false)->HC.get 3=some (.cells (cI (wS n d)) false)->K f [] HC:=by
  intro f HC f2 f3 f4 f5 h0 h1 h2 h3;apply hK;clear hK K;refine bQ ?_;refine Dz ?_;generalize (EP n (wS n d)).1=qa at *;generalize (EP d (wS n d)).1=qb at *;have k1:(cI qa++AV.bool false::AV.bool false::wC zs).length=36:=by rw[Ba,mC,JI]
  have k2:(cI qa++AV.bool false::AV.bool false::wC zs).take 18=cI qa:=by rw[Cl (by rw[mC];decide)];exact(oL (mC qa)).2.1
  have hcR:cI qa++cI qb=cR qa qb:=rfl;have Zd:=oL (so qa qb);have k3:(cI qa++AV.bool false::AV.bool false::wC zs).drop 36=[]:=Ia (by rw[k1];decide);simp only[↓zP,zJ,seval,zD,f2,f5,h0,h3,oL la,oL (mC _)];refine fH (q1 _) ?_;simp only[↓zP,zJ,seval,zD,f3,f5,h1,h3,oL lb,oL (mC _)];refine fH (q2 _) ?_;simp only[↓zP,zJ,seval,zD,f4,h0,h1,h2,h3,oL (mC _),z36,oL z36,k1,k2,k3,hcR,Zd];refine bR ?_;refine Tx ?_;refine⟨rfl,_,by simp only[↓zP,zR,seval,f4,Zd];rfl,?_⟩;rfl
 simp only[↓zP,zJ,seval,f3',h1,oL lb];refine bZ (sg _) ?_;simp only[↓zP,zG,seval,e2];refine⟨fun hdn=>?_,fun hdn=>?_⟩
 . have em:wS n d= -(Int.gcd n d:Int):=by unfold wS;rw[if_pos hdn]
   have ev:AV.agg (cO (Xs (some (Int.gcd n d:Int))))=AV.agg (cI (wS n d)):=(by rw[em];rfl);rw[ev] at ng;simp only[zJ,seval,XI,h3,oL (mC _)];refine bZ (ng _) ?_;simp only[↓zP,zJ,seval,XI,h3,oL (mC _)];refine key _ _ ?_ ?_ ?_ ?_ ?_ ?_ ?_ ?_
   . simp only[zB,seval];exact f2'
   . simp only[zB,seval];exact f3'
   . simp only[zB,seval];exact SH
   . simp only[zB,seval];exact XI
   . simp only[zI,seval,h0]
   . simp only[zI,seval,h1]
   . simp only[zI,seval,h2]
   simp only[zI,seval]
 have em:wS n d=(Int.gcd n d:Int):=by unfold wS;rw[if_neg hdn]
 rw[<-em] at h3;refine key _ _ ?_ ?_ ?_ ?_ h0 h1 h2 h3
 . simp only[zB,seval];exact f2'
 . simp only[zB,seval];exact f3'
 . simp only[zB,seval];exact SH
 simp only[zB,seval];exact XI
end Go.Proofs.YtgggiembljfnhaaGreatDoor
namespace Go.Proofs.YtgggiembljfnhaaGreatDoor
open Go Go.Av Go.aP
def plX (l:List aP.V) (q:aP.V×Int):List Nat:=zw (kC (fun i=>l.getD i V0) l.length q.1 q.2) (uK q.1 (fun i=>l.getD i V0) (kC (fun i=>l.getD i V0) l.length q.1 q.2))
theorem ZQ {l:List aP.V} (hl:l.Pairwise iU) {q:aP.V×Int} (hq:q∈nC l):pZ l q=plX l q:=aGv ((uO hl).po q hq)
theorem ZR {l:List aP.V} {S:List (aP.V×Int)} (h:fw (fun i=>l.getD i V0) l.length S=true):nC l=S:=(BU l).uniq (HH h)
theorem Vu {S:List (aP.V×Int)} {L L':aP.V×Int->List Nat} (h:∀q∈S,L q=L' q) (k:Nat):gQ S L k=gQ S L' k:=by
 unfold gQ;rw[Cg,Bw,Bw];constructor
 . rintro⟨q,hq,hk⟩;exact⟨q,hq,by rw[<-h q hq];exact hk⟩
 rintro⟨q,hq,hk⟩;exact⟨q,hq,by rw[h q hq];exact hk⟩
theorem Wp (l C:List aP.V) {S:List (aP.V×Int)} {L L':aP.V×Int->List Nat} (h:∀q∈S,L q=L' q):NJ l C S L=NJ l C S L':=by
 have hL:iF C S L=iF C S L':=by unfold iF;rw[show gQ S L=gQ S L' from funext (Vu h)]
 have hO:iZ l C S L=iZ l C S L':=by unfold iZ;rw[hL]
 unfold NJ;rw[hO,hL]
def nq:List aP.V->Bool
 |[]=>true
 |v::r=>(r.all fun x=>ltV v x)&&nq r
theorem Md:∀{l:List aP.V},nq l=true->l.Pairwise iU
 |[],_=>.nil
 |q::r,h=>by simp only[nq,Al,Ax] at h;exact Ck.2 ⟨fun x hx=>ai.1 (h.1 x hx),Md h.2⟩
theorem aDq {l:List aP.V} {S:List (aP.V×Int)} (hl:nq l=true) (h:fw (fun i=>l.getD i V0) l.length S=true):vC l=NJ l l S (plX l):=by have hs:=Md hl;unfold vC;rw[OY hs,Wp l l (S:=nC l) fun q hq=>ZQ hs hq,ZR h]
theorem tz {l:List aP.V} {S:List (aP.V×Int)} (hl:nq l=true) (h:fw (fun i=>l.getD i V0) l.length S=true):xJ l S (plX l) where
 fl:=HH h
 po q hq:=by
  have jy:q∈nC l:=by rw[ZR h];exact hq
  have :=(uO (Md hl)).po q jy
  rwa [ZQ (Md hl) jy] at this
def AB (o:Int) (p:Int):List aP.V:=[⟨o,p,p⟩,⟨o,p,p+2⟩,⟨o,p+2,p⟩,⟨o,p+2,p+2⟩,⟨o+2,p,p⟩,⟨o+2,p,p+2⟩,⟨o+2,p+2,p⟩,⟨o+2,p+2,p+2⟩]
def td (o:Int) (p:Int):List (aP.V×Int):=[(⟨-1,0,0⟩,-o),(⟨0,-1,0⟩,-p),(⟨0,0,-1⟩,-p),(⟨0,0,1⟩,p+2),(⟨0,1,0⟩,p+2),(⟨1,0,0⟩,o+2)]
theorem ZI:fw (fun i=>(AB 0 0).getD i V0) (AB 0 0).length (td 0 0)=true:=by decide+kernel
theorem ZJ:nq (AB 0 0)=true:=by decide+kernel
theorem QS:vC (AB 0 0)=0:=by rw[aDq ZJ ZI];decide+kernel
def NQ (o p:Int):AV:=.bB 0 3 (cJ (AB o p))
theorem ik (o p:Int):vY (NQ o p,AB o p):=.inr rfl
theorem aFr (H:aA):Sg 158 [.agg [NQ 0 0]] H (.ret (.bB (H.next+2) 5 ((td 0 0).map (dU (plX (AB 0 0)))))) (H.alloc .tok):=by have hn:∀v∈AB 0 0,cH (2^18) v:=(NH QS).2.2.2.2.2.2;exact ei (tag:=0) rfl hn (Ab _) (by decide) (tz ZJ ZI) (by decide) H
end Go.Proofs.YtgggiembljfnhaaGreatDoor
namespace Go.Proofs.YtgggiembljfnhaaGreatDoor
open Go Go.Av Go.uG Go.aP
def aEa:List AV->Option (Int×Int)
 |[.agg a,.agg b]=>match NS a,NS b with
  |some (some x),some (some y)=>some (x,y)
  |_,_=>none
 |_=>none
theorem ZK {args:List AV} {x y:Int} (h:aEa args=some (x,y)):∃a b,args=[.agg a,.agg b]/\mA a (some x)/\mA b (some y):=by
 unfold aEa at h;split at h
 . rename_i a b;split at h
   . rename_i x' y' hx hy;cases h;exact⟨a,b,rfl,sD hx,sD hy⟩
   cases h
 cases h
def aQy:List AV->Option (Int×Int)
 |[.agg c]=>match NS (c.take 18),NS (c.drop 18) with
  |some (some x),some (some y)=>some (x,y)
  |_,_=>none
 |_=>none
theorem aEb {args:List AV} {x y:Int} (h:aQy args=some (x,y)):args=[.agg (cR x y)]:=by
 unfold aQy at h;split at h
 . rename_i c;split at h
   . rename_i x' y' hx hy;cases h;have e1:=(sD hx).some.1;have e2:=(sD hy).some.1;rw[cR,<-e1,<-e2,Ic]
   cases h
 cases h
def aIm (x y:Int):Bool:=Nat.blt x.natAbs (2^64)&&Nat.blt y.natAbs (2^64)&&decide (0<y)&&Nat.beq (Int.gcd x y) 1
def xt:List AV->Bool
 |[.agg c]=>rE (tJ c) [NQ 0 0]
 |_=>false
def aIh:List (List AV):=[
 [.int .i64 (-1),.int .i64 0,.int .i64 0,.int .i64 0,.bB 0 1 [[.int .i64 0],[.int .i64 1],[.int .i64 3],[.int .i64 2]]],
 [.int .i64 0,.int .i64 (-1),.int .i64 0,.int .i64 0,.bB 0 1 [[.int .i64 0],[.int .i64 4],[.int .i64 5],[.int .i64 1]]],
 [.int .i64 0,.int .i64 0,.int .i64 (-1),.int .i64 0,.bB 0 1 [[.int .i64 0],[.int .i64 2],[.int .i64 6],[.int .i64 4]]],
 [.int .i64 0,.int .i64 0,.int .i64 1,.int .i64 2,.bB 0 1 [[.int .i64 1],[.int .i64 5],[.int .i64 7],[.int .i64 3]]],
 [.int .i64 0,.int .i64 1,.int .i64 0,.int .i64 2,.bB 0 1 [[.int .i64 2],[.int .i64 3],[.int .i64 7],[.int .i64 6]]],
 [.int .i64 1,.int .i64 0,.int .i64 0,.int .i64 2,.bB 0 1 [[.int .i64 4],[.int .i64 6],[.int .i64 7],[.int .i64 5]]]]
theorem tc:(td 0 0).map (dU (plX (AB 0 0)))=aIh:=by kernel_rfl
def bCx (f:FuncId) (args:List AV) (H:aA):Option (Out×aA):=
 match aTh f args with
 |some v=>some (.ret v,H)
 |none=>match Nat.beq f 170 with
 |true=>match aEa args with
  |some (x,y)=>match Nat.blt x.natAbs (2^64)&&Nat.blt y.natAbs (2^64) with
   |true=>some (.ret (.agg (cI (Int.gcd x y))),H)
   |false=>none
  |none=>none
 |false=>match Nat.beq f 165 with
 |true=>match aEa args with
  |some (x,y)=>match TO x y with
   |true=>some (.ret (.agg (cR (EP x (wS x y)).1 (EP y (wS x y)).1)),H)
   |false=>none
  |none=>none
 |false=>match Nat.beq f 168 with
 |true=>match aQy args with
  |some (x,y)=>match aIm x y with
   |true=>some (.ret (.bool true),H)
   |false=>none
  |none=>none
 |false=>match Nat.beq f 158 with
 |true=>match xt args with
  |true=>some (.ret (.bB (H.next+2) 5 aIh),H.alloc .tok)
  |false=>none
 |false=>none
theorem qQ:Ky Tryz.prog gv bCx:=by
 intro f args H out H' h;unfold bCx at h;split at h
 . rename_i v hv;cases h;exact aGo hv H
 split at h
 . rename_i hf;obtain rfl:=Be hf;split at h
   . rename_i x y hd;obtain⟨a,b,rfl,ha,hb⟩:=ZK hd;split at h
     . rename_i hc;cases h;simp only[Al,Gq] at hc;exact JR ha hb hc.1 hc.2 H
     cases h
   cases h
 split at h
 . rename_i hf;obtain rfl:=Be hf;split at h
   . rename_i x y hd;obtain⟨a,b,rfl,ha,hb⟩:=ZK hd;split at h
     . rename_i hc;cases h;simp only[TO,Al,Cn,Bd,Bh] at hc;obtain⟨⟨⟨⟨c1,c2⟩,c3⟩,c4⟩,c5⟩:=hc;exact mw ha hb c1 c2 c3 c4 c5 H
     cases h
   cases h
 split at h
 . rename_i hf;obtain rfl:=Be hf;split at h
   . rename_i x y hd;obtain rfl:=aEb hd;split at h
     . rename_i hc;cases h;simp only[aIm,Al,Bd,Gq] at hc;obtain⟨⟨⟨c1,c2⟩,c3⟩,c4⟩:=hc;exact mr c1 c2 c3 (Be c4) H
     cases h
   cases h
 split at h
 . rename_i hf;obtain rfl:=Be hf;split at h
   . rename_i hc;cases h
     obtain⟨c,rfl,hc⟩:∃c,args=[.agg c]/\rE (tJ c) [NQ 0 0]=true:=by
      unfold xt at hc;split at hc
      . exact⟨_,rfl,hc⟩
      cases hc
     refine Sound.fgt ?_
     have e:tJ [AV.agg c]=[.agg [NQ 0 0]]:=by rw[tJ,fgt,tJ,nF _ _ hc]
     rw[e,<-tc];exact aFr H
   cases h
 cases h
end Go.Proofs.YtgggiembljfnhaaGreatDoor
namespace Go.Proofs.YtgggiembljfnhaaGreatDoor
open Go Go.Av Go.aP
def bIc:FT:=.node 141 (.node 74 (.node 34 (.node 27 (.node 14 (.node 11 (.leaf 8 W8.1) (.leaf 11 W11.1)) (.node 16 (.leaf 14 W14.1) (.node 26 (.leaf 16 W16.1) (.leaf 26 W26.1)))) (.node 31 (.node 28 (.leaf 27 W27.1) (.node 29 (.leaf 28 W28.1) (.leaf 29 W29.1))) (.node 32 (.leaf 31 W31.1) (.node 33 (.leaf 32 W32.1) (.leaf 33 W33.1))))) (.node 66 (.node 44 (.node 39 (.leaf 34 W34.1) (.node 40 (.leaf 39 W39.1) (.leaf 40 W40.1))) (.node 45 (.leaf 44 W44.1) (.node 65 (.leaf 45 W45.1) (.leaf 65 W65.1)))) (.node 70 (.node 67 (.leaf 66 W66.1) (.node 69 (.leaf 67 W67.1) (.leaf 69 W69.1))) (.node 72 (.leaf 70 W70.1) (.node 73 (.leaf 72 W72.1) (.leaf 73 W73.1)))))) (.node 111 (.node 88 (.node 77 (.node 75 (.leaf 74 W74.1) (.node 76 (.leaf 75 W75.1) (.leaf 76 W76.1))) (.node 79 (.leaf 77 W77.1) (.node 86 (.leaf 79 W79.1) (.leaf 86 W86.1)))) (.node 107 (.node 105 (.leaf 88 W88.1) (.node 106 (.leaf 105 aCg.1) (.leaf 106 aKw.1))) (.node 108 (.leaf 107 aKx.1) (.node 109 (.leaf 108 aKy.1) (.leaf 109 aKz.1))))) (.node 131 (.node 127 (.node 112 (.leaf 111 aLa.1) (.node 113 (.leaf 112 aCh.1) (.leaf 113 aCi.1))) (.node 129 (.leaf 127 aLi.1) (.node 130 (.leaf 129 aLk.1) (.leaf 130 aLl.1)))) (.node 134 (.node 132 (.leaf 131 aLm.1) (.node 133 (.leaf 132 aLn.1) (.leaf 133 aLo.1))) (.node 139 (.leaf 134 aLp.1) (.node 140 (.leaf 139 aLq.1) (.leaf 140 aLr.1))))))) (.node 232 (.node 181 (.node 174 (.node 163 (.node 142 (.leaf 141 aLs.1) (.node 162 (.leaf 142 aCl.1) (.leaf 162 aMd.1))) (.node 166 (.leaf 163 aCq.1) (.node 167 (.leaf 166 aCr.1) (.leaf 167 aCs.1)))) (.node 178 (.node 175 (.leaf 174 aMk.1) (.node 176 (.leaf 175 aMl.1) (.leaf 176 aMm.1))) (.node 179 (.leaf 178 aMo.1) (.node 180 (.leaf 179 aCu.1) (.leaf 180 aMp.1))))) (.node 217 (.node 188 (.node 186 (.leaf 181 aMq.1) (.node 187 (.leaf 186 aMr.1) (.leaf 187 aMs.1))) (.node 189 (.leaf 188 aMt.1) (.node 190 (.leaf 189 aMu.1) (.leaf 190 aCv.1)))) (.node 224 (.node 218 (.leaf 217 aNn.1) (.node 219 (.leaf 218 aNo.1) (.leaf 219 aDa.1))) (.node 230 (.leaf 224 aDb.1) (.node 231 (.leaf 230 aNx.1) (.leaf 231 aNy.1)))))) (.node 255 (.node 238 (.node 235 (.node 233 (.leaf 232 aNz.1) (.node 234 (.leaf 233 aOa.1) (.leaf 234 aOb.1))) (.node 236 (.leaf 235 aOc.1) (.node 237 (.leaf 236 aOd.1) (.leaf 237 aOe.1)))) (.node 252 (.node 246 (.leaf 238 aOf.1) (.node 250 (.leaf 246 aOg.1) (.leaf 250 aOh.1))) (.node 253 (.leaf 252 aOi.1) (.node 254 (.leaf 253 aOj.1) (.leaf 254 aOk.1))))) (.node 292 (.node 285 (.node 256 (.leaf 255 aOl.1) (.node 277 (.leaf 256 aDc.1) (.leaf 277 aPd.1))) (.node 289 (.leaf 285 aPh.1) (.node 291 (.leaf 289 aPi.1) (.leaf 291 aPk.1)))) (.node 301 (.node 293 (.leaf 292 aPl.1) (.node 294 (.leaf 293 aPm.1) (.leaf 294 aPn.1))) (.node 323 (.leaf 301 aPo.1) (.node 325 (.leaf 323 aQb.1) (.leaf 325 aQc.1)))))))
theorem sN:bIc.om fun f F=>∃mu,kH Tryz.prog gv mu f F:=⟨⟨⟨⟨⟨⟨⟨_,is8⟩,⟨_,aWb⟩⟩,⟨⟨_,bGj⟩,⟨⟨_,bGk⟩,⟨_,bGp⟩⟩⟩⟩,⟨⟨⟨_,bGq⟩,⟨⟨_,bGr⟩,⟨_,bAl⟩⟩⟩,⟨⟨_,bGs⟩,⟨⟨_,bBe⟩,⟨_,bBh⟩⟩⟩⟩⟩,⟨⟨⟨⟨_,bBo⟩,⟨⟨_,bBw⟩,⟨_,bBx⟩⟩⟩,⟨⟨_,bHb⟩,⟨⟨_,bHc⟩,⟨_,bHk⟩⟩⟩⟩,⟨⟨⟨_,bBz⟩,⟨⟨_,bCa⟩,⟨_,bHl⟩⟩⟩,⟨⟨_,bHm⟩,⟨⟨_,bCd⟩,⟨_,bCe⟩⟩⟩⟩⟩⟩,⟨⟨⟨⟨⟨_,bCf⟩,⟨⟨_,bCg⟩,⟨_,bCh⟩⟩⟩,⟨⟨_,bCi⟩,⟨⟨_,bCj⟩,⟨_,bCk⟩⟩⟩⟩,⟨⟨⟨_,bHv⟩,⟨⟨_,aJd⟩,⟨_,aVx⟩⟩⟩,⟨⟨_,aVy⟩,⟨⟨_,aVz⟩,⟨_,aWa⟩⟩⟩⟩⟩,⟨⟨⟨⟨_,aWc⟩,⟨⟨_,aJe⟩,⟨_,aJf⟩⟩⟩,⟨⟨_,aWk⟩,⟨⟨_,aWm⟩,⟨_,aWn⟩⟩⟩⟩,⟨⟨⟨_,aWo⟩,⟨⟨_,aWp⟩,⟨_,aWq⟩⟩⟩,⟨⟨_,aWr⟩,⟨⟨_,aWs⟩,⟨_,aWt⟩⟩⟩⟩⟩⟩⟩,⟨⟨⟨⟨⟨⟨_,aWu⟩,⟨⟨_,aJi⟩,⟨_,aXf⟩⟩⟩,⟨⟨_,aJn⟩,⟨⟨_,aJo⟩,⟨_,aJp⟩⟩⟩⟩,⟨⟨⟨_,aXm⟩,⟨⟨_,aXn⟩,⟨_,aXo⟩⟩⟩,⟨⟨_,aXq⟩,⟨⟨_,aJr⟩,⟨_,aXr⟩⟩⟩⟩⟩,⟨⟨⟨⟨_,aXs⟩,⟨⟨_,aXt⟩,⟨_,aXu⟩⟩⟩,⟨⟨_,aXv⟩,⟨⟨_,aXw⟩,⟨_,aJs⟩⟩⟩⟩,⟨⟨⟨_,aYp⟩,⟨⟨_,aYq⟩,⟨_,aJx⟩⟩⟩,⟨⟨_,aJy⟩,⟨⟨_,aYz⟩,⟨_,aZa⟩⟩⟩⟩⟩⟩,⟨⟨⟨⟨⟨_,aZb⟩,⟨⟨_,aZc⟩,⟨_,aZd⟩⟩⟩,⟨⟨_,aZe⟩,⟨⟨_,aZf⟩,⟨_,aZg⟩⟩⟩⟩,⟨⟨⟨_,aZh⟩,⟨⟨_,aZi⟩,⟨_,aZj⟩⟩⟩,⟨⟨_,aZk⟩,⟨⟨_,aZl⟩,⟨_,aZm⟩⟩⟩⟩⟩,⟨⟨⟨⟨_,aZn⟩,⟨⟨_,aJz⟩,⟨_,bAf⟩⟩⟩,⟨⟨_,bAj⟩,⟨⟨_,bAk⟩,⟨_,bAn⟩⟩⟩⟩,⟨⟨⟨_,bAo⟩,⟨⟨_,bAp⟩,⟨_,bAq⟩⟩⟩,⟨⟨_,bAr⟩,⟨⟨_,bBf⟩,⟨_,bBg⟩⟩⟩⟩⟩⟩⟩⟩
def DC (g:bG) (T:FT) (WS:Lm):List Fact->List Fact->Bool
 |_,[]=>true
 |K,e::es=>match ran g T (aGl K WS) aKg 2 e with
  |true=>DC g T WS (e::K) es
  |false=>false
theorem vT.DC {g:bG} {T:FT} {o:Lm} (hm:Fit Tryz.prog g) (hg:DH g) (hT:T.om fun f F=>∃mu,kH Tryz.prog g mu f F) (ho:Ky Tryz.prog g o):∀(es:List Fact) {K:List Fact},vT Tryz.prog g K->DC g T o K es=true->vT Tryz.prog g (es.reverseAux K)
 |[],_,hK,_=>hK
 |e::es,K,hK,h=>by
  unfold Proofs.YtgggiembljfnhaaGreatDoor.DC at h;split at h
  . rename_i h1;exact vT.DC hm hg hT ho es (hK.ran hm hg hT ho y6 2 h1) h
  cases h
def v3 (a b c:Int):List AV:=cR a 1++cR b 1++cR c 1
def QT:AV:=.bB 0 3 [iC [0,0,0],iC [0,0,2],iC [0,2,0],iC [0,2,2],iC [2,0,0],iC [2,0,2],iC [2,2,0],iC [2,2,2]]
def p0:List AV:=iC [0,0,0,1,0,0,0]
def zz:AV:=.bB 0 3 [iC [0,0,0],iC [0,0,0]]
def bX (c:UInt8):List AV:=[.str [c],.bB 0 1 [[QT]],.int .i64 3,.int .i64 3,.int .i64 500,.int .i64 500]
def bA:List AV:=bX 97
def yX:List AV:=[.int .i64 10,.int .i64 500,.int .i64 500,.bB 0 14 [.int .i64 1::(bX 97++iC [90,0,0,1,0,0,0]),.int .i64 2::(bX 112++iC [95,0,0,1,0,0,0])],.bB 0 8 [iC [1,0,1,1,2,9,1,0]],.bB 0 10 [iC [1,0,1,1,5,0,0,7,0,0]]]
def sX (a t:Bool) (p:List AV):AV:=.agg [.bB 0 1 [[.bool a],[.bool false]],.bB 0 7 [p,iC [95,0,0,1,0,0,0]],zz,zz,.bB 0 1 [[.bool t]],.bB 0 1 [[.bool false]]]
def sA:AV:=sX false false (iC [90,0,0,1,0,0,0])
def sB:AV:=sX true false p0
def sC:AV:=sX true true p0
def pts:AV:=.bB 0 108 [v3 0 0 0,v3 0 0 2,v3 0 2 0,v3 0 2 2,v3 2 0 0,v3 2 0 2,v3 2 2 0,v3 2 2 2]
theorem aSx (H:aA):Sg 102 [.agg [QT]] H (.ret (.int .i64 0)) H:=by have :=Pk (p:=(NQ 0 0,AB 0 0)) (ik 0 0) (by decide) H;rw[show vC ((NQ 0 0,AB 0 0):AV×List V).2=0 from QS] at this;exact this
def bDt:FT:=.node 101 (.leaf 64 W64.1) (.node 103 (.leaf 101 aKu.1) (.leaf 103 aKv.1))
theorem aDs:bDt.om fun f F=>∃mu,kH Tryz.prog gv mu f F:=⟨⟨_,bHj⟩,⟨⟨_,aVv⟩,⟨_,aVw⟩⟩⟩
def kY9:List Fact:=[(102,[.agg [QT]],.int .i64 0)]
theorem aSn:vT Tryz.prog gv kY9:=vT.nil.cons aSx
def eY9:List Fact:=[(64,[.agg (bX 112)],.int .i64 0),(64,[.agg (bX 97)],.int .i64 0)]
def kY0:List Fact:=eY9.reverseAux kY9
theorem aSm:vT Tryz.prog gv kY0:=vT.DC fit fG aDs qQ eY9 aSn (by kernel_rfl)
def eA:List Fact:=[(26,[.int .i64 90,.int .i64 0],.agg (iC [90,0,0,1,0,0,0])),
 (26,[.int .i64 95,.int .i64 0],.agg (iC [95,0,0,1,0,0,0])),
 (26,[.int .i64 0,.int .i64 9],.agg (iC [0,0,9,1,0,0,0])),
 (26,[.int .i64 0,.int .i64 0],.agg (p0)),
 (14,[.agg (yX)],sA),
 (27,[.agg (yX)],.int .i64 0),
 (28,[sA],.aR),
 (11,[.agg (yX),sA],.bool true),
 (29,[sA],.bool true),
 (8,[.agg (yX),sA,.agg ([.int .i64 1,.int .i64 1,.bB 0 7 [iC [0,0,9,1,0,0,0],p0]])],.iA [sB,.int .i64 0]),
 (29,[sB],.bool true),
 (8,[.agg (yX),sB,.agg ([.int .i64 1,.int .i64 1,.bB 0 7 [iC [0,0,9,1,0,0,0],p0]])],.iA [sB,.int .i64 4]),
 (8,[.agg (yX),sB,.agg ([.int .i64 2,.int .i64 1,.bB 0 7 [p0,iC [0,0,9,1,0,0,0]]])],.iA [sB,.int .i64 7]),
 (8,[.agg (yX),sB,.agg ([.int .i64 3,.int .i64 1,.aR])],.iA [sB,.int .i64 1]),
 (8,[.agg (yX),sB,.agg ([.int .i64 3,.int .i64 0,.aR])],.iA [sC,.int .i64 0]),
 (29,[sC],.bool true),
 (8,[.agg (yX),sC,.agg ([.int .i64 3,.int .i64 0,.aR])],.iA [sC,.int .i64 4]),
 (26,[.int .i64 5,.int .i64 0],.agg (iC [5,0,0,1,0,0,0])),
 (8,[.agg (yX),sC,.agg ([.int .i64 1,.int .i64 2,.bB 0 7 [iC [5,0,0,1,0,0,0]]])],.iA [sC,.int .i64 2]),
 (28,[sC],.bB 0 1 [iC [1]]),
 (31,[.bB 0 1 [iC [1]],.bB 0 1 [iC [1]]],.bool true),
 (16,[.agg ([.int .i64 3,.int .i64 0,.aR])],.bB 0 1 [[.int .u8 6],[.int .u8 0],[.int .u8 0]])]
def kYA:List Fact:=eA.reverseAux kY0
theorem aSo:vT Tryz.prog gv kYA:=vT.DC fit fG sN qQ eA aSm (by kernel_rfl)
def eB0:List Fact:=[(69,[.agg (iC [0,0,0])],.agg (v3 0 0 0)),
 (107,[.agg (v3 0 0 0),.agg (v3 1 1 2)],.agg (v3 1 1 2)),
 (70,[.agg (p0),.agg (iC [1,1,2])],.agg (v3 1 1 2)),
 (69,[.agg (iC [9,1,0])],.agg (v3 9 1 0)),
 (109,[.bB 0 6 [bA],.bB 0 7 [p0]],.bool true),
 (179,[.agg (iC [0,0,1])],.agg (iC [0,0,(-1)])),
 (107,[.agg (v3 0 0 0),.agg (v3 0 0 0)],.agg (v3 0 0 0)),
 (70,[.agg (p0),.agg (iC [0,0,0])],.agg (v3 0 0 0)),
 (107,[.agg (v3 0 0 0),.agg (v3 0 0 2)],.agg (v3 0 0 2)),
 (70,[.agg (p0),.agg (iC [0,0,2])],.agg (v3 0 0 2)),
 (107,[.agg (v3 0 0 0),.agg (v3 0 2 0)],.agg (v3 0 2 0)),
 (70,[.agg (p0),.agg (iC [0,2,0])],.agg (v3 0 2 0))]
def bCm:List Fact:=eB0.reverseAux kYA
theorem aFc:vT Tryz.prog gv bCm:=vT.DC fit fG sN qQ eB0 aSo (by kernel_rfl)
def eB1:List Fact:=[(107,[.agg (v3 0 0 0),.agg (v3 0 2 2)],.agg (v3 0 2 2)),
 (70,[.agg (p0),.agg (iC [0,2,2])],.agg (v3 0 2 2)),
 (107,[.agg (v3 0 0 0),.agg (v3 2 0 0)],.agg (v3 2 0 0)),
 (70,[.agg (p0),.agg (iC [2,0,0])],.agg (v3 2 0 0)),
 (107,[.agg (v3 0 0 0),.agg (v3 2 0 2)],.agg (v3 2 0 2)),
 (70,[.agg (p0),.agg (iC [2,0,2])],.agg (v3 2 0 2)),
 (107,[.agg (v3 0 0 0),.agg (v3 2 2 0)],.agg (v3 2 2 0)),
 (70,[.agg (p0),.agg (iC [2,2,0])],.agg (v3 2 2 0)),
 (107,[.agg (v3 0 0 0),.agg (v3 2 2 2)],.agg (v3 2 2 2)),
 (70,[.agg (p0),.agg (iC [2,2,2])],.agg (v3 2 2 2)),
 (180,[.agg (p0),.agg ([QT])],pts),
 (69,[.agg (iC [0,0,(-1)])],.agg (v3 0 0 (-1)))]
def bCn:List Fact:=eB1.reverseAux bCm
theorem aFd:vT Tryz.prog gv bCn:=vT.DC fit fG sN qQ eB1 aFc (by kernel_rfl)
def eB2:List Fact:=[(231,[.agg (iC [0,0,(-1)]),.agg (v3 0 0 2)],.agg (cR (-2) 1)),
 (231,[.agg (iC [0,0,(-1)]),.agg (v3 0 0 0)],.agg (cR 0 1)),
 (231,[.agg (iC [0,0,(-1)]),.agg (v3 0 2 0)],.agg (cR 0 1)),
 (231,[.agg (iC [0,0,(-1)]),.agg (v3 0 2 2)],.agg (cR (-2) 1)),
 (231,[.agg (iC [0,0,(-1)]),.agg (v3 2 0 0)],.agg (cR 0 1)),
 (231,[.agg (iC [0,0,(-1)]),.agg (v3 2 0 2)],.agg (cR (-2) 1)),
 (231,[.agg (iC [0,0,(-1)]),.agg (v3 2 2 0)],.agg (cR 0 1)),
 (231,[.agg (iC [0,0,(-1)]),.agg (v3 2 2 2)],.agg (cR (-2) 1)),
 (178,[.agg (iC [0,0,(-1)]),pts],.bB 0 108 [v3 0 0 0,v3 0 2 0,v3 2 0 0,v3 2 2 0])]
def bCo:List Fact:=eB2.reverseAux bCn
theorem aFe:vT Tryz.prog gv bCo:=vT.DC fit fG sN qQ eB2 aFd (by kernel_rfl)
def eC0:List Fact:=[(134,[.agg (cR 0 1)],.int .i64 0),
 (189,[.agg (v3 0 2 0),.agg (v3 0 0 0)],.agg (v3 0 2 0)),
 (189,[.agg (v3 2 0 0),.agg (v3 0 0 0)],.agg (v3 2 0 0)),
 (134,[.agg (cR (-4) 1)],.int .i64 (-1)),
 (238,[.agg ([.int .i64 0,.int .i64 1,.bool false]),.agg (v3 0 0 0),.agg (v3 0 2 0),.agg (v3 2 0 0)],.int .i64 (-1)),
 (189,[.agg (v3 2 2 0),.agg (v3 0 0 0)],.agg (v3 2 2 0)),
 (134,[.agg (cR 4 1)],.int .i64 1),
 (238,[.agg ([.int .i64 0,.int .i64 1,.bool false]),.agg (v3 0 0 0),.agg (v3 2 0 0),.agg (v3 2 2 0)],.int .i64 1),
 (189,[.agg (v3 0 0 0),.agg (v3 2 0 0)],.agg (v3 (-2) 0 0)),
 (189,[.agg (v3 0 2 0),.agg (v3 2 0 0)],.agg (v3 (-2) 2 0)),
 (238,[.agg ([.int .i64 0,.int .i64 1,.bool false]),.agg (v3 2 0 0),.agg (v3 0 0 0),.agg (v3 0 2 0)],.int .i64 (-1)),
 (189,[.agg (v3 2 0 0),.agg (v3 2 0 0)],.agg (v3 0 0 0))]
def bCp:List Fact:=eC0.reverseAux bCo
theorem aFf:vT Tryz.prog gv bCp:=vT.DC fit fG sN qQ eC0 aFe (by kernel_rfl)
def eC1:List Fact:=[(238,[.agg ([.int .i64 0,.int .i64 1,.bool false]),.agg (v3 2 0 0),.agg (v3 0 2 0),.agg (v3 2 0 0)],.int .i64 0),
 (189,[.agg (v3 2 2 0),.agg (v3 2 0 0)],.agg (v3 0 2 0)),
 (238,[.agg ([.int .i64 0,.int .i64 1,.bool false]),.agg (v3 2 0 0),.agg (v3 0 2 0),.agg (v3 2 2 0)],.int .i64 (-1)),
 (189,[.agg (v3 0 0 0),.agg (v3 2 2 0)],.agg (v3 (-2) (-2) 0)),
 (189,[.agg (v3 0 2 0),.agg (v3 2 2 0)],.agg (v3 (-2) 0 0)),
 (238,[.agg ([.int .i64 0,.int .i64 1,.bool false]),.agg (v3 2 2 0),.agg (v3 0 0 0),.agg (v3 0 2 0)],.int .i64 (-1)),
 (189,[.agg (v3 2 0 0),.agg (v3 2 2 0)],.agg (v3 0 (-2) 0)),
 (238,[.agg ([.int .i64 0,.int .i64 1,.bool false]),.agg (v3 2 2 0),.agg (v3 0 2 0),.agg (v3 2 0 0)],.int .i64 1),
 (189,[.agg (v3 2 2 0),.agg (v3 2 2 0)],.agg (v3 0 0 0)),
 (238,[.agg ([.int .i64 0,.int .i64 1,.bool false]),.agg (v3 2 2 0),.agg (v3 0 2 0),.agg (v3 2 2 0)],.int .i64 0),
 (189,[.agg (v3 0 0 0),.agg (v3 0 2 0)],.agg (v3 0 (-2) 0)),
 (189,[.agg (v3 0 2 0),.agg (v3 0 2 0)],.agg (v3 0 0 0))]
def bCq:List Fact:=eC1.reverseAux bCp
theorem aFg:vT Tryz.prog gv bCq:=vT.DC fit fG sN qQ eC1 aFf (by kernel_rfl)
def eC2:List Fact:=[(238,[.agg ([.int .i64 0,.int .i64 1,.bool false]),.agg (v3 0 2 0),.agg (v3 0 0 0),.agg (v3 0 2 0)],.int .i64 0),
 (189,[.agg (v3 2 0 0),.agg (v3 0 2 0)],.agg (v3 2 (-2) 0)),
 (238,[.agg ([.int .i64 0,.int .i64 1,.bool false]),.agg (v3 0 2 0),.agg (v3 0 0 0),.agg (v3 2 0 0)],.int .i64 1),
 (189,[.agg (v3 2 2 0),.agg (v3 0 2 0)],.agg (v3 2 0 0)),
 (238,[.agg ([.int .i64 0,.int .i64 1,.bool false]),.agg (v3 0 2 0),.agg (v3 0 0 0),.agg (v3 2 2 0)],.int .i64 1),
 (181,[.agg (iC [0,0,1]),.bB 0 108 [v3 0 0 0,v3 0 2 0,v3 2 0 0,v3 2 2 0]],.bB 0 108 [v3 0 0 0,v3 2 0 0,v3 2 2 0,v3 0 2 0])]
def bCr:List Fact:=eC2.reverseAux bCq
theorem aFh:vT Tryz.prog gv bCr:=vT.DC fit fG sN qQ eC2 aFg (by kernel_rfl)
def eD0:List Fact:=[(69,[.agg (iC [0,0,1])],.agg (v3 0 0 1)),
 (254,[.agg (cI 16384)],.agg (cI 128)),
 (187,[.agg (iC [0,0,1]),.int .i64 500],.iA [.agg (iC [1,0,0,0,1,0]),.agg (cR 1 2++cR 1 2)]),
 (69,[.agg (iC [1,0,0])],.agg (v3 1 0 0)),
 (188,[.agg (cR 1 2),.agg (v3 1 0 0)],.agg (cR 1 2++cR 0 1++cR 0 1)),
 (107,[.agg (v3 0 0 1),.agg (cR 1 2++cR 0 1++cR 0 1)],.agg (cR 1 2++cR 0 1++cR 1 1)),
 (189,[.agg (v3 0 0 1),.agg (cR 1 2++cR 0 1++cR 0 1)],.agg (cR (-1) 2++cR 0 1++cR 1 1)),
 (69,[.agg (iC [0,1,0])],.agg (v3 0 1 0)),
 (188,[.agg (cR 1 2),.agg (v3 0 1 0)],.agg (cR 0 1++cR 1 2++cR 0 1)),
 (107,[.agg (v3 0 0 1),.agg (cR 0 1++cR 1 2++cR 0 1)],.agg (cR 0 1++cR 1 2++cR 1 1)),
 (189,[.agg (v3 0 0 1),.agg (cR 0 1++cR 1 2++cR 0 1)],.agg (cR 0 1++cR (-1) 2++cR 1 1)),
 (139,[.agg (iC [0,0,1]),.int .i64 500],.iA [.bB 0 108 [cR 1 2++cR 0 1++cR 1 1,cR (-1) 2++cR 0 1++cR 1 1,cR 0 1++cR 1 2++cR 1 1,cR 0 1++cR (-1) 2++cR 1 1],.int .i64 0])]
def bCs:List Fact:=eD0.reverseAux bCr
theorem aFi:vT Tryz.prog gv bCs:=vT.DC fit fG sN qQ eD0 aFh (by kernel_rfl)
def eD1:List Fact:=[(140,[.bB 0 108 [v3 0 0 0,v3 2 0 0,v3 2 2 0,v3 0 2 0]],.bool true),
 (140,[.bB 0 108 [v3 1 1 2,v3 9 1 0]],.bool true),
 (111,[.agg ([.int .i64 10,.bB 0 6 [bA],.bB 0 7 [p0],.bB 0 6 [[.int .i64 0,.int .i64 1,.int .i64 0,.int .i64 0,.int .i64 1,.bB 0 108 [v3 0 0 0,v3 2 0 0,v3 2 2 0,v3 0 2 0]]],.bB 0 1 [iC [500]],.bB 0 218 [iC [1,0]++v3 1 1 2++v3 9 1 0],.aR])],.int .i64 0)]
def aSp:List Fact:=eD1.reverseAux bCs
theorem aFj:vT Tryz.prog gv aSp:=vT.DC fit fG sN qQ eD1 aFi (by kernel_rfl)
end Go.Proofs.YtgggiembljfnhaaGreatDoor
namespace Go.Proofs.YtgggiembljfnhaaGreatDoor
open Go Go.Av
def qy:{x // KU Tryz.prog DN false Tryz.f135=some x}:=⟨_,cX⟩
theorem aSj:kH Tryz.prog DN false 135 qy.1:=jC Tryz.func135 (by kernel_rfl) qy.2
def qz:{x // KU Tryz.prog DN false Tryz.f136=some x}:=⟨_,cX⟩
theorem aSk:kH Tryz.prog DN false 136 qz.1:=jC Tryz.func136 (by kernel_rfl) qz.2
def qx:{x // KU Tryz.prog DN false Tryz.f110=some x}:=⟨_,uJ⟩
theorem aSi:kH Tryz.prog DN false 110 qx.1:=jC Tryz.func110 (by kernel_rfl) qx.2
def aQs:{x // KU Tryz.prog DN false Tryz.f71=some x}:=⟨_,uJ⟩
theorem bCc:kH Tryz.prog DN false 71 aQs.1:=jC Tryz.func71 (by kernel_rfl) aQs.2
def aPx:{x // KU Tryz.prog DN false Tryz.f30=some x}:=⟨_,uJ⟩
theorem bBa:kH Tryz.prog DN false 30 aPx.1:=jC Tryz.func30 (by kernel_rfl) aPx.2
def aQr:{x // KU Tryz.prog DN false Tryz.f68=some x}:=⟨_,cX⟩
theorem bCb:kH Tryz.prog DN false 68 aQr.1:=jC Tryz.func68 (by kernel_rfl) aQr.2
def W7T:{x // KU Tryz.prog DN false Tryz.f7=some x}:=⟨_,cX⟩
theorem bHo:kH Tryz.prog DN false 7 W7T.1:=jC Tryz.func7 (by kernel_rfl) W7T.2
def aOp:{x // KU Tryz.prog DN false Tryz.f25=some x}:=⟨_,cX⟩
theorem aZr:kH Tryz.prog DN false 25 aOp.1:=jC Tryz.func25 (by kernel_rfl) aOp.2
def aQq:{x // KU Tryz.prog DN false Tryz.f63=some x}:=⟨_,cX⟩
theorem bBy:kH Tryz.prog DN false 63 aQq.1:=jC Tryz.func63 (by kernel_rfl) aQq.2
end Go.Proofs.YtgggiembljfnhaaGreatDoor
namespace Go.Proofs.YtgggiembljfnhaaGreatDoor
open Go Go.Av Go.aP
def bDg:FT:=.node 68 (.node 30 (.node 25 (.leaf 7 W7T.1) (.leaf 25 aOp.1)) (.node 63 (.leaf 30 aPx.1) (.leaf 63 aQq.1))) (.node 110 (.node 71 (.leaf 68 aQr.1) (.leaf 71 aQs.1)) (.node 135 (.leaf 110 qx.1) (.node 136 (.leaf 135 qy.1) (.leaf 136 qz.1))))
theorem aBa:bDg.om fun f F=>∃mu,kH Tryz.prog DN mu f F:=⟨⟨⟨⟨_,bHo⟩,⟨_,aZr⟩⟩,⟨⟨_,bBa⟩,⟨_,bBy⟩⟩⟩,⟨⟨⟨_,bCb⟩,⟨_,bCc⟩⟩,⟨⟨_,aSi⟩,⟨⟨_,aSj⟩,⟨_,aSk⟩⟩⟩⟩⟩
def bIb:Lm:=fun _ _ _=>none
theorem aGn:Ky Tryz.prog DN bIb:=fun _ _ _ _ _ h=>by cases h
theorem aSr:vT Tryz.prog DN aSp:=aTy aFj (by kernel_rfl)
def eT:List Fact:=[(135,[.agg (p0),.agg ([QT])],.agg (cR 0 1)),
 (136,[.agg (p0),.agg ([QT])],.bB 0 108 [v3 0 0 0,v3 2 0 0,v3 2 2 0,v3 0 2 0]),
 (110,[.bB 0 6 [bA],.bB 0 7 [p0]],.iA [.bB 0 6 [[.int .i64 0,.int .i64 1,.int .i64 0,.int .i64 0,.int .i64 1,.bB 0 108 [v3 0 0 0,v3 2 0 0,v3 2 2 0,v3 0 2 0]]],.int .i64 0]),
 (7,[],.bool true)]
theorem aSq:vT Tryz.prog DN (eT.reverseAux aSp):=vT.DC aUm XP aBa aGn eT aSr (by kernel_rfl)
theorem nc (H:aA):St 7 [] H (.ret (.bool true)) H:=aSq _ Ar H
end Go.Proofs.YtgggiembljfnhaaGreatDoor
