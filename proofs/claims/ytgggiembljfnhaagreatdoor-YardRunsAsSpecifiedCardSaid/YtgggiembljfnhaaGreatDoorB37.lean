/-
  Part of the proof of statement 12
-/
import Derived.Test.YtgggiembljfnhaaGreatDoorB07
import Derived.Test.YtgggiembljfnhaaGreatDoorB19
import Derived.Test.YtgggiembljfnhaaGreatDoorB05
import Derived.Test.YtgggiembljfnhaaGreatDoorB06
import Derived.Test.YtgggiembljfnhaaGreatDoorB36
import Derived.Test.YtgggiembljfnhaaGreatDoorB25
import Derived.Test.YtgggiembljfnhaaGreatDoorB12
import Derived.Test.YtgggiembljfnhaaGreatDoorB14
import Derived.Test.YtgggiembljfnhaaGreatDoorB16
import Derived.Test.YtgggiembljfnhaaGreatDoorB20
import Derived.Test.YtgggiembljfnhaaGreatDoorB22
import Derived.Test.YtgggiembljfnhaaGreatDoorB24
import Derived.Test.YtgggiembljfnhaaGreatDoorB18
set_option maxRecDepth 1000000
set_option maxHeartbeats 16000000
set_option linter.unusedVariables false
set_option linter.unusedSimpArgs false
namespace Go.Proofs.YtgggiembljfnhaaGreatDoor
open Go Go.Av
def W44:CW Tryz.f44:=⟨_,cX⟩
theorem bHs:Fi 44 W44:=cM Tryz.func44 W44
def W45:CW Tryz.f45:=⟨_,cX⟩
theorem bHt:Fi 45 W45:=cM Tryz.func45 W45
def aOr:CW Tryz.f235:=⟨_,cX⟩
theorem aZv:Fi 235 aOr:=cM Tryz.func235 aOr
def aOw:CW Tryz.f250:=⟨_,vF⟩
theorem bAa:Fi 250 aOw:=cM Tryz.func250 aOw
def aOu:CW Tryz.f238:=⟨_,cX⟩
theorem aZy:Fi 238 aOu:=cM Tryz.func238 aOu
def aMf:CW Tryz.f139:=⟨_,vF⟩
theorem aXi:Fi 139 aMf:=cM Tryz.func139 aMf
def aNh:CW Tryz.f187:=⟨_,vF⟩
theorem aYl:Fi 187 aNh:=cM Tryz.func187 aNh
def aNg:CW Tryz.f186:=⟨_,cX⟩
theorem aYk:Fi 186 aNg:=cM Tryz.func186 aNg
def aNf:CW Tryz.f181:=⟨_,cX⟩
theorem aYj:Fi 181 aNf:=cM Tryz.func181 aNf
def aOt:CW Tryz.f237:=⟨_,cX⟩
theorem aZx:Fi 237 aOt:=cM Tryz.func237 aOt
def aOo:CW Tryz.f232:=⟨_,cX⟩
theorem aZs:Fi 232 aOo:=cM Tryz.func232 aOo
def aNd:CW Tryz.f178:=⟨_,cX⟩
theorem aYh:Fi 178 aNd:=cM Tryz.func178 aNd
def aLp:CW Tryz.f111:=⟨_,vF⟩
theorem aWs:Fi 111 aLp:=cM Tryz.func111 aLp
def aMh:CW Tryz.f141:=⟨_,cX⟩
theorem aXl:Fi 141 aMh:=cM Tryz.func141 aMh
def aMg:CW Tryz.f140:=⟨_,cX⟩
theorem aXk:Fi 140 aMg:=cM Tryz.func140 aMg
def aMd:CW Tryz.f133:=⟨_,cX⟩
theorem aXg:Fi 133 aMd:=cM Tryz.func133 aMd
def aLo:CW Tryz.f109:=⟨_,cX⟩
theorem aWq:Fi 109 aLo:=cM Tryz.func109 aLo
def aPs:CW Tryz.f277:=⟨_,cX⟩
theorem bAw:Fi 277 aPs:=cM Tryz.func277 aPs
def aQq:CW Tryz.f323:=⟨_,cX⟩
theorem bBw:Fi 323 aQq:=cM Tryz.func323 aQq
def W70:CW Tryz.f70:=⟨_,cX⟩
theorem bIe:Fi 70 W70:=cM Tryz.func70 W70
def aNe:CW Tryz.f180:=⟨_,cX⟩
theorem aYi:Fi 180 aNe:=cM Tryz.func180 aNe
def aMz:CW Tryz.f174:=⟨_,cX⟩
theorem aYd:Fi 174 aMz:=cM Tryz.func174 aMz
def aNa:CW Tryz.f175:=⟨_,cX⟩
theorem aYe:Fi 175 aNa:=cM Tryz.func175 aNa
def aLn:CW Tryz.f108:=⟨_,cX⟩
theorem aWp:Fi 108 aLn:=cM Tryz.func108 aLn
def aMa:CW Tryz.f130:=⟨_,cX⟩
theorem aXd:Fi 130 aMa:=cM Tryz.func130 aMa
def aMb:CW Tryz.f131:=⟨_,vF⟩
theorem aXe:Fi 131 aMb:=cM Tryz.func131 aMb
def aNb:CW Tryz.f176:=⟨_,cX⟩
theorem aYf:Fi 176 aNb:=cM Tryz.func176 aNb
def aOm:CW Tryz.f230:=⟨_,vF⟩
theorem aZq:Fi 230 aOm:=cM Tryz.func230 aOm
def aQc:CW Tryz.f294:=⟨_,cX⟩
theorem bBh:Fi 294 aQc:=cM Tryz.func294 aQc
def aMe:CW Tryz.f134:=⟨_,cX⟩
theorem aXh:Fi 134 aMe:=cM Tryz.func134 aMe
def aPa:CW Tryz.f255:=⟨_,cX⟩
theorem bAe:Fi 255 aPa:=cM Tryz.func255 aPa
def W26:CW Tryz.f26:=⟨_,cX⟩
theorem bHh:Fi 26 W26:=cM Tryz.func26 W26
def aPz:CW Tryz.f291:=⟨_,cX⟩
theorem bBe:Fi 291 aPz:=cM Tryz.func291 aPz
def aNj:CW Tryz.f189:=⟨_,cX⟩
theorem aYn:Fi 189 aNj:=cM Tryz.func189 aNj
def aOn:CW Tryz.f231:=⟨_,cX⟩
theorem aZr:Fi 231 aOn:=cM Tryz.func231 aOn
def aOx:CW Tryz.f252:=⟨_,vF⟩
theorem bAb:Fi 252 aOx:=cM Tryz.func252 aOx
def aOy:CW Tryz.f253:=⟨_,cX⟩
theorem bAc:Fi 253 aOy:=cM Tryz.func253 aOy
def aOz:CW Tryz.f254:=⟨_,cX⟩
theorem bAd:Fi 254 aOz:=cM Tryz.func254 aOz
def aPx:CW Tryz.f289:=⟨_,cX⟩
theorem bBb:Fi 289 aPx:=cM Tryz.func289 aPx
def aQd:CW Tryz.f301:=⟨_,cX⟩
theorem bBi:Fi 301 aQd:=cM Tryz.func301 aQd
def aPw:CW Tryz.f285:=⟨_,cX⟩
theorem bBa:Fi 285 aPw:=cM Tryz.func285 aPw
end Go.Proofs.YtgggiembljfnhaaGreatDoor
namespace Go.Proofs.YtgggiembljfnhaaGreatDoor
open Go Go.Av Go.uE
def aRo:AV->Option Nat
 |.int .u32 n=>match Nat.blt n.natAbs W&&decide ((n.natAbs:Int)=n) with
  |true=>some n.natAbs
  |false=>none
 |_=>none
theorem aEs {x:AV} {a:Nat} (h:aRo x=some a):x=.int .u32 (a:Nat)/\a<W:=by
 unfold aRo at h;split at h
 . split at h
   . rename_i n hc;cases h;simp only[Al,Bd] at hc;exact⟨by rw[hc.2],by simpa using hc.1⟩
   cases h
 cases h
def aEr:List AV->Option (List Nat)
 |[]=>some []
 |x::r=>match aRo x,aEr r with
  |some a,some l=>some (a::l)
  |_,_=>none
theorem ZN:∀{v:List AV} {l:List Nat},aEr v=some l->v=wC l/\∀d∈l,d<W
 |[],l,h=>by cases h;exact⟨rfl,fun d hd=>by cases hd⟩
 |x::r,l,h=>by
  simp only[aEr] at h;split at h
  . rename_i a l' ha pA;cases h;obtain⟨h1,h2⟩:=ZN pA;obtain⟨h3,h4⟩:=aEs ha;refine⟨by rw[h1,h3];rfl,fun d hd=>?_⟩
    rcases Am.1 hd with rfl|hd
    . exact h4
    exact h2 d hd
  cases h
def NV:List AV->Option (Option Int)
 |.bool b::.bool n::r=>match aEr r with
  |some l=>match Nat.beq l.length 16 with
   |true=>some (QB b n l)
   |false=>none
  |none=>none
 |_=>none
theorem sH {v:List AV} {x:Option Int} (h:NV v=some x):mD v x:=by
 unfold NV at h;split at h
 . rename_i b n r;split at h
   . rename_i l hl;split at h
     . rename_i hc;cases h;obtain⟨h1,h2⟩:=ZN hl;exact⟨b,n,l,⟨Be hc,h2⟩,by rw[h1],rfl⟩
     cases h
   cases h
 cases h
def kr (g:Option Int->AV):List AV->Option AV
 |[.agg a]=>match NV a with
  |some x=>some (g x)
  |none=>none
 |_=>none
def ku (g:Option Int->Option Int->AV):List AV->Option AV
 |[.agg a,.agg b]=>match NV a,NV b with
  |some x,some y=>some (g x y)
  |_,_=>none
 |_=>none
theorem MY {g:Option Int->AV} {f:FuncId} (hS:∀a x,mD a x->∀H,Sg f [.agg a] H (.ret (g x)) H) {args:List AV} {v:AV} (h:kr g args=some v) (H:aA):Sg f args H (.ret v) H:=by
 unfold kr at h;split at h
 . rename_i a;split at h
   . rename_i x hx;cases h;exact hS a x (sH hx) H
   cases h
 cases h
theorem MZ {g:Option Int->Option Int->AV} {f:FuncId} (hS:∀a b x y,mD a x->mD b y->∀H,Sg f [.agg a,.agg b] H (.ret (g x y)) H) {args:List AV} {v:AV} (h:ku g args=some v) (H:aA):Sg f args H (.ret v) H:=by
 unfold ku at h;split at h
 . rename_i a b;split at h
   . rename_i x y hx hy;cases h;exact hS a b x y (sH hx) (sH hy) H
   cases h
 cases h
def aAe:List AV->Option AV
 |[.int .i64 z]=>match decide (-2^63<=z)&&decide (z<2^63) with
  |true=>some (.agg (cI z))
  |false=>none
 |_=>none
theorem aAf {args:List AV} {v:AV} (h:aAe args=some v) (H:aA):Sg 128 args H (.ret v) H:=by
 unfold aAe at h;split at h
 . rename_i z;split at h
   . rename_i hc;cases h;simp only[Al,Bd] at hc;exact Mr hc.1 hc.2 H
   cases h
 cases h
def aTw (f:FuncId) (args:List AV):Option AV:=
 match Nat.beq f 128 with
 |true=>aAe args
 |false=>match Nat.beq f 172 with
 |true=>ku (fun x y=>.agg (cO (Wn x y))) args
 |false=>match Nat.beq f 281 with
 |true=>ku (fun x y=>.agg (cO (Wn x (Xw y)))) args
 |false=>match Nat.beq f 173 with
 |true=>ku (fun x y=>.agg (cO (Xv x y))) args
 |false=>match Nat.beq f 222 with
 |true=>kr (fun x=>.agg (cO (Xw x))) args
 |false=>match Nat.beq f 226 with
 |true=>kr (fun x=>.agg (cO (aUs x))) args
 |false=>match Nat.beq f 177 with
 |true=>kr (fun x=>.int .i64 (yR x)) args
 |false=>match Nat.beq f 126 with
 |true=>ku (fun x y=>.int .i64 (rP x y)) args
 |false=>match Nat.beq f 215 with
 |true=>kr (fun x=>.iA [.int .i64 (qM x).1,.bool (qM x).2]) args
 |false=>none
theorem aHe {f:FuncId} {args:List AV} {v:AV} (h:aTw f args=some v) (H:aA):Sg f args H (.ret v) H:=by
 unfold aTw at h;split at h
 . rename_i hf;obtain rfl:=Be hf;exact aAf h H
 split at h
 . rename_i hf;obtain rfl:=Be hf;exact MZ (fun a b x y ha hb H=>qi ha hb H) h H
 split at h
 . rename_i hf;obtain rfl:=Be hf;exact MZ (fun a b x y ha hb H=>aLh ha hb H) h H
 split at h
 . rename_i hf;obtain rfl:=Be hf;exact MZ (fun a b x y ha hb H=>aLf ha hb H) h H
 split at h
 . rename_i hf;obtain rfl:=Be hf;exact MY (fun a x ha H=>Wi ha H) h H
 split at h
 . rename_i hf;obtain rfl:=Be hf;exact MY (fun a x ha H=>aLa ha H) h H
 split at h
 . rename_i hf;obtain rfl:=Be hf;exact MY (fun a x ha H=>MG ha H) h H
 split at h
 . rename_i hf;obtain rfl:=Be hf;exact MZ (fun a b x y ha hb H=>aLb ha hb H) h H
 split at h
 . rename_i hf;obtain rfl:=Be hf;exact MY (fun a x ha H=>Mt ha H) h H
 cases h
attribute [local congr] aT aI aL aH aX aQ aM aF aY
attribute [local irreducible] FC bS eF
theorem WD {z:Int} (h:z.natAbs<2^64):bL z.natAbs 1*4294967296+bL z.natAbs 0=z.natAbs:=by
 have hW:W=4294967296:=rfl;have h2:bL z.natAbs 0=z.natAbs%W:=by simp[bL]
 have h3:bL z.natAbs 1=z.natAbs / W:=by unfold bL;rw[Nat.pow_one,hW,Dl (by omega)]
 rw[h2,h3,Dg];exact Ff _ _
theorem aCd {a:Nat} (h:a<2^64):sz a<=2:=by
 rcases Mg 16 a with h0|h0
 . unfold sz;omega
 refine Nat.not_lt.1 fun h3=>h0 ?_;unfold sz at h3;unfold bL;have :W^2<=W^(cx 16 a -1):=Ds (by decide) (by omega);have hW:W^2=2^64:=rfl;rw[Eh (by omega)];rfl
theorem JN {a b:List AV} {x y:Int} (ha:mD a (some x)) (hb:mD b (some y)) (hx:x.natAbs<2^64) (hy:y.natAbs<2^64) (H:aA):
 Sg 170 [.agg a,.agg b] H (.ret (.agg (cI (Int.gcd x y)))) H:=by
 refine Sp aYa ZaB Zav ?_ H;unfold aMw;dsimp only;have hg:=AI ha hb;have s1:=IY x.natAbs;have s2:=IY y.natAbs;have la:=ha.len;have lb:=hb.len;obtain⟨rfl,hz⟩:=ha.some;obtain⟨rfl,hz'⟩:=hb.some;refine bQ ?_;simp only[↓zP,zJ,Nat.reduceLT,Nat.reduceEqDiff,Nat.reduceAdd];refine fF ?_;simp only[↓zP,zJ,Nat.reduceLT,Nat.reduceEqDiff,Nat.reduceAdd,oL la,oL lb];refine bY (hg _) ?_;simp only[↓zP,zJ,Nat.reduceLT,Bc,Cp];refine bR ?_;have JE:(AV.bool false::AV.bool false::wC zs).length=18:=by simp[dM];rfl
 have mE:∀z,(cI z).length=18:=fun z=>dZ z;generalize hX:(((aA.mk 0 .nil).alloc _).alloc _).alloc _=HA;have g0:HA.get 0=some (.cells (cI x) false):=by subst hX;simp only[zI,Nat.reduceAdd,Nat.reduceEqDiff]
 have g1:HA.get 1=some (.cells (cI y) false):=by subst hX;simp only[zI,Nat.reduceAdd,Nat.reduceEqDiff]
 have g2:HA.get 2=some (.cells (AV.bool false::AV.bool false::wC zs) false):=by subst hX;simp only[zI,Nat.reduceAdd,Nat.reduceEqDiff]
 clear hX;refine bV fun f hf=>?_;have f2:f 2=.ref 0 0:=by subst hf;simp only[zB,Nat.reduceEqDiff]
 have f3:f 3=.ref 1 0:=by subst hf;simp only[zB,Nat.reduceEqDiff]
 have f4:f 4=.ref 2 0:=by subst hf;simp only[zB,Nat.reduceEqDiff]
 clear hf;have lx:=iL (.bJ x.natAbs);have ly:=iL (.bJ y.natAbs);have dx:(cI x).drop 2=wC (bJ 16 x.natAbs):=rfl;have dy:(cI y).drop 2=wC (bJ 16 y.natAbs):=rfl;refine aN fun K hK=>?_;simp only[↓zP,zJ,Nat.reduceLT,Nat.reduceEqDiff,Nat.reduceAdd,Nat.reduceLeDiff,f2,g0,oL la,dx,lx];refine bY (s1 _) ?_;have e1:decide (((sz x.natAbs:Nat):Int)<=2)=true:=Aj (by have :=aCd hx;omega);have e2:decide (((sz y.natAbs:Nat):Int)<=2)=true:=Aj (by have :=aCd hy;omega);simp only[↓zP,zJ,Nat.reduceLT,Nat.reduceEqDiff,Nat.reduceAdd,f3,g1,oL lb,dy,ly,e1];refine bY (s2 _) ?_;simp only[↓zP,zJ,Nat.reduceLT,Nat.reduceEqDiff,e2];refine Dz ?_;have h0:=jU x.natAbs 0;have h1:=jU x.natAbs 1;have k0:=jU y.natAbs 0;have k1:=jU y.natAbs 1;have hW:W=4294967296:=rfl;have p0:(cI x).getD 2 aD=.int .u32 (bL x.natAbs 0:Nat):=lI (a:=x.natAbs) (i:=0) (by decide);have p1:(cI x).getD 3 aD=.int .u32 (bL x.natAbs 1:Nat):=lI (a:=x.natAbs) (i:=1) (by decide);have q0:(cI y).getD 2 aD=.int .u32 (bL y.natAbs 0:Nat):=lI (a:=y.natAbs) (i:=0) (by decide);have q1:(cI y).getD 3 aD=.int .u32 (bL y.natAbs 1:Nat):=lI (a:=y.natAbs) (i:=1) (by decide);have w0:IntKind.u64.wrap ((bL x.natAbs 0:Nat):Int)=(bL x.natAbs 0:Nat):=rY (by omega) (.inl rfl);have w1:IntKind.u64.wrap ((bL x.natAbs 1:Nat):Int)=(bL x.natAbs 1:Nat):=rY (by omega) (.inl rfl);have v0:IntKind.u64.wrap ((bL y.natAbs 0:Nat):Int)=(bL y.natAbs 0:Nat):=rY (by omega) (.inl rfl);have v1:IntKind.u64.wrap ((bL y.natAbs 1:Nat):Int)=(bL y.natAbs 1:Nat):=rY (by omega) (.inl rfl);have ox:=aTu h1 h0;have oy:=aTu k1 k0;rw[WD hx] at ox;rw[WD hy] at oy;simp only[↓zP,zJ,Nat.reduceLT,Nat.reduceEqDiff,Nat.reduceAdd,zD,reduceCtorEq,Nat.reduceLeDiff,Int.reduceLT,f2,f3,g0,g1,oL la,oL lb,sT,p0,p1,q0,q1,w0,w1,v0,v1,ox,oy];refine bV fun f' hf=>?_;have SL:f' 4=.ref 2 0:=by subst hf;simp only[zB,Nat.reduceEqDiff];exact f4
 have f5:f' 5=.int .u64 (x.natAbs:Nat):=by subst hf;simp only[zB,Nat.reduceEqDiff]
 have f6:f' 6=.int .u64 (y.natAbs:Nat):=by subst hf;simp only[zB]
 clear hf f2 f3 f4;refine aJ (iP [5,6] (fun m vs H'=>H'=HA/\∃a b:Nat,vs=[.int .u64 (a:Nat),.int .u64 (b:Nat)]/\a<2^64/\b<2^64/\m=b/\Nat.gcd a b=Nat.gcd x.natAbs y.natAbs) y.natAbs (by rfl) ?_ ?_)
 . exact⟨rfl,_,_,by simp only[sm,f5,f6],hx,hy,rfl,rfl⟩
 rintro b f H1 hk ⟨rfl,a,_,hv,hx1,hy1,rfl,hgc⟩;simp only[zM] at hv;obtain⟨h5,h6⟩:=hv;have f4:f 4=.ref 2 0:=by rw[hk 4 rfl];exact SL
 by_cases XY:b=0
 . subst XY;have e0:(((0:Nat):Int) != 0)=false:=rfl;have ea:a=Int.gcd x y:=by rw[Nat.gcd_zero_right] at hgc;exact hgc
   have l2:=RG hx1;have hl:=Rz.bJ a;have q0:((a%W:Nat):Int)=(bL a 0:Nat):=(by simp[bL]);have q1:((a / W%W:Nat):Int)=(bL a 1:Nat):=(by simp[bL]);have MK:1<=(List.drop 1 (wC zs)).length:=(by decide);have hse:=oI (n:=false) (m:=a) (De hx1 (by decide)) (z:=(a:Int)) rfl;simp only[↓zP,zJ,Nat.reduceLT,Nat.reduceEqDiff,Nat.reduceAdd,Nat.reduceLeDiff,Int.reduceLT,h5,h6,e0,Yy,Na,q0,q1,l2,MK];refine bY (hse _) ?_;simp only[↓zP,zJ,Nat.reduceEqDiff,f4,g2,mE,JE,oL JE];refine⟨rfl,_,by simp only[↓zP,zR,Nat.reduceEqDiff,f4,g2,mE,oL (mE _)];rfl,?_⟩;rw[ea];rfl
 have e0:(((b:Nat):Int) != 0)=true:=Dd.2 (by omega);have bEs:¬((b:Nat):Int)=0:=by omega
 simp only[↓zP,zJ,Nat.reduceLT,h6,e0];refine aJ ?_;refine Dz ?_;simp only[↓zP,zJ,Nat.reduceLT,Nat.reduceEqDiff,Nat.reduceAdd,zD,reduceCtorEq,h5,h6,bEs];have ht:Int.tmod (a:Int) (b:Int)=((a%b:Nat):Int):=rfl;have fJ:a%b<b:=Di _ (by omega);have hwm:IntKind.u64.wrap ((a%b:Nat):Int)=((a%b:Nat):Int):=rY (by omega) (.inl rfl);rw[ht];exact⟨_,fJ,b,a%b,rfl,hy1,by omega,rfl,by rw[Hz,<-Nat.gcd_rec,Hz,hgc]⟩
def EN (x y:Int):Int×Int:=if(!decide (x.tmod y=0)&&(decide (x.tmod y<0) != decide (y<0)))=true then(x.tdiv y -1,x.tmod y+y) else(x.tdiv y,x.tmod y)
theorem tdiv_le (x y:Int):(x.tdiv y).natAbs<=x.natAbs:=by rw[Int.natAbs_tdiv];exact Js _ _
theorem aId (x:Int) {y:Int} (h:y≠0):(x.tmod y).natAbs<y.natAbs:=by rw[Int.natAbs_tmod];exact Di _ (by omega)
theorem DI {a b:List AV} {x y:Int} (ha:mD a (some x)) (hb:mD b (some y)) (x7: -2^63<x) (hx1:x<2^63) (MT: -2^63<y) (hy1:y<2^63) (hy:y≠0) (H:aA):
 Sg 227 [.agg a,.agg b] H (.ret (.iA [.agg (cI (EN x y).1),.agg (cI (EN x y).2)])) H:=by
 refine Sp aZn ZaB Zav ?_ H;unfold aOj;dsimp only;have hg:=AI ha hb;have hs:=MG hb;have h1:=Mt ha;have h2:=Mt hb;have e1:qM (some x)=(x,true):=by simp only[qM];rw[if_pos (by omega)]
 have e2:qM (some y)=(y,true):=by simp only[qM];rw[if_pos (by omega)]
 rw[e1] at h1;rw[e2] at h2
 have hsg:(yR (some y)==0)=false:=by simp only[yR];split<;>(try split)<;>first|rfl|omega
 have hq:=tdiv_le x y;have hr:=aId x hy;have wq:IntKind.i64.wrap (x.tdiv y)=x.tdiv y:=wrap_i64 (by omega) (by omega);have wr:IntKind.i64.wrap (x.tmod y)=x.tmod y:=wrap_i64 (by omega) (by omega);have la:=ha.len;have lb:=hb.len;have nx:(x != -9223372036854775808)=true:=Dd.2 (by omega);have ny:(y != -9223372036854775808)=true:=Dd.2 (by omega);refine bQ ?_;refine Ty ?_;refine bR ?_;have JE:(AV.bool false::AV.bool false::wC zs).length=18:=by simp[dM];rfl
 have mE:∀z,(cI z).length=18:=fun z=>dZ z;generalize hX:((((aA.mk 0 .nil).alloc _).alloc _).alloc _).alloc _=HA;have g0:HA.get 0=some (.cells a false):=by subst hX;simp only[zI,seval]
 have g1:HA.get 1=some (.cells b false):=by subst hX;simp only[zI,seval]
 have g2:HA.get 2=some (.cells (AV.bool false::AV.bool false::wC zs) false):=by subst hX;simp only[zI,seval]
 have g3:HA.get 3=some (.cells (AV.bool false::AV.bool false::wC zs) false):=by subst hX;simp only[zI,seval]
 clear hX;refine bQ ?_;simp only[↓zP,zJ,seval,g0,g1,oL la,oL lb];refine bY (hg _) ?_;simp only[↓zP,zJ,seval,g1,oL lb,Bc,Cp];refine bY (hs _) ?_;simp only[↓zP,zG,seval,hsg];refine bR ?_;refine aN fun K hK=>?_;refine bQ ?_;simp only[↓zP,zJ,seval,g0,oL la];refine bY (h1 _) ?_;refine Ty ?_;refine bR ?_;clear hK;refine bV fun f hf=>?_;have f3:f 3=.ref 1 0:=by subst hf;simp only[zB,seval]
 have f4:f 4=.ref 2 0:=by subst hf;simp only[zB,seval]
 have f5:f 5=.ref 3 0:=by subst hf;simp only[zB,seval]
 have f6:f 6=.int .i64 x:=by subst hf;simp only[zB,seval]
 have f7:f 7=.bool true:=by subst hf;simp only[zB,seval]
 clear hf;refine bQ ?_;simp only[↓zP,zG,seval,f6,f7,nx];refine bR ?_;simp only[↓zP,zJ,seval,f3,g1,oL lb];refine bY (h2 _) ?_;simp only[↓zP,zJ,seval,ny];refine bV fun f' hf=>?_;have SL:=Ks hf f4;have XO:=Ks hf f5;have f6':=Ks hf f6;have f8':f' 8=.int .i64 y:=by subst hf;simp only[zB,seval]
 clear hf f3 f4 f5 f6 f7;refine Dz ?_
 have Zg:EN x y=if(!decide (x.tmod y=0)&&(decide (x.tmod y<0) != decide (y<0)))=true then(x.tdiv y -1,x.tmod y+y) else(x.tdiv y,x.tmod y):=rfl
 have oq:=Mr (z:=x.tdiv y) (by omega) (by omega);have or:=Mr (z:=x.tmod y) (by omega) (by omega);have oq1:∀H,Sg 128 [.int .i64 (x.tdiv y -1)] H (.ret (.agg (cI (x.tdiv y -1)))) H:=Mr (by omega) (by omega);have wq1:IntKind.i64.wrap (x.tdiv y -1)=x.tdiv y -1:=wrap_i64 (by omega) (by omega);by_cases c0:x.tmod y=0
 . have hn:(x.tmod y != 0)=false:=by simp[c0]
   rw[Aj c0] at Zg;simp only[↓zP,zJ,seval,zD,f6',f8',hy,wq,hn];refine bY (oq _) ?_;refine Tz ?_;refine bY (or _) ?_;exact Zaj
 have hn:(x.tmod y != 0)=true:=Dd.2 c0;rw[Ag c0] at Zg;by_cases cA:x.tmod y<0
 . have hA:=Aj cA;rw[hA] at Zg;by_cases cB:y<0
   . have hB:=Aj cB;rw[hB] at Zg;simp only[↓zP,zJ,seval,zD,f6',f8',hy,wq,hn,hA,hB];refine bY (oq _) ?_;refine Tz ?_;refine bY (or _) ?_;exact Zaj
   have hB:=Ag cB;rw[hB] at Zg;have or1:∀H,Sg 128 [.int .i64 (x.tmod y+y)] H (.ret (.agg (cI (x.tmod y+y)))) H:=Mr (by omega) (by omega);have wr1:IntKind.i64.wrap (x.tmod y+y)=x.tmod y+y:=wrap_i64 (by omega) (by omega);simp only[↓zP,zJ,seval,zD,f6',f8',hy,wq,hn,hA,hB,wq1,wr1];refine bY (oq1 _) ?_;refine Tz ?_;refine bY (or1 _) ?_;exact Zaj
 have hA:=Ag cA;rw[hA] at Zg;by_cases cB:y<0
 . have hB:=Aj cB;rw[hB] at Zg;have or1:∀H,Sg 128 [.int .i64 (x.tmod y+y)] H (.ret (.agg (cI (x.tmod y+y)))) H:=Mr (by omega) (by omega);have wr1:IntKind.i64.wrap (x.tmod y+y)=x.tmod y+y:=wrap_i64 (by omega) (by omega);simp only[↓zP,zJ,seval,zD,f6',f8',hy,wq,hn,hA,hB,wq1,wr1];refine bY (oq1 _) ?_;refine Tz ?_;refine bY (or1 _) ?_;exact Zaj
 have hB:=Ag cB;rw[hB] at Zg;simp only[↓zP,zJ,seval,zD,f6',f8',hy,wq,hn,hA,hB];refine bY (oq _) ?_;refine Tz ?_;refine bY (or _) ?_;exact Zaj
theorem JP {a b:List AV} {x y:Int} (ha:mD a (some x)) (hb:mD b (some y)) (x7: -2^63<x) (hx1:x<2^63) (MT: -2^63<y) (hy1:y<2^63) (hy:y≠0) (H:aA):
 Sg 171 [.agg a,.agg b] H (.ret (.agg (cI (EN x y).1))) H:=by
 refine Sp aYb ZaB Zav ?_ H;unfold aMx;exact Zak
theorem e8 {a b:List AV} {x y:Int} (ha:mD a (some x)) (hb:mD b (some y)) (x7: -2^63<x) (hx1:x<2^63) (MT: -2^63<y) (hy1:y<2^63) (hy:y≠0) (H:aA):
 Sg 290 [.agg a,.agg b] H (.ret (.agg (cI (EN x y).2))) H:=by
 refine Sp bBd ZaB Zav ?_ H;unfold aPy;exact Zak
def TV (x y:Int):Bool:=decide (-2^63<x)&&decide (x<2^63)&&decide (-2^63<y)&&decide (y<2^63)&& !decide (y=0)
def aGz (g:Int×Int->AV):List AV->Option AV
 |[.agg a,.agg b]=>match NV a,NV b with
  |some (some x),some (some y)=>match TV x y with
   |true=>some (g (EN x y))
   |false=>none
  |_,_=>none
 |_=>none
theorem br {g:Int×Int->AV} {f:FuncId} (hS:∀a b x y,mD a (some x)->mD b (some y)->-2^63<x->x<2^63->-2^63<y->y<2^63->y≠0->∀H,Sg f [.agg a,.agg b] H (.ret (g (EN x y))) H) {args:List AV} {v:AV} (h:aGz g args=some v) (H:aA):Sg f args H (.ret v) H:=by
 unfold aGz at h;split at h
 . rename_i a b;split at h
   . rename_i x y hx hy;split at h
     . rename_i hc;cases h;simp only[TV,Al,Cn,Bd,Bh] at hc;obtain⟨⟨⟨⟨c1,c2⟩,c3⟩,c4⟩,c5⟩:=hc;exact hS a b x y (sH hx) (sH hy) c1 c2 c3 c4 c5 H
     cases h
   cases h
 cases h
def aTv (f:FuncId) (args:List AV):Option AV:=
 match Nat.beq f 171 with
 |true=>aGz (fun d=>.agg (cI d.1)) args
 |false=>match Nat.beq f 290 with
 |true=>aGz (fun d=>.agg (cI d.2)) args
 |false=>aTw f args
theorem aHd {f:FuncId} {args:List AV} {v:AV} (h:aTv f args=some v) (H:aA):Sg f args H (.ret v) H:=by
 unfold aTv at h;split at h
 . rename_i hf;obtain rfl:=Be hf;exact br (fun a b x y ha hb h1 h2 h3 h4 h5 H=>JP ha hb h1 h2 h3 h4 h5 H) h H
 split at h
 . rename_i hf;obtain rfl:=Be hf;exact br (fun a b x y ha hb h1 h2 h3 h4 h5 H=>e8 ha hb h1 h2 h3 h4 h5 H) h H
 exact aHe h H
def cR (n d:Int):List AV:=cI n++cI d
theorem su (n d:Int):(cR n d).length=36:=by rw[cR,Ba,dZ,dZ]
theorem aEe (n d:Int):(cR n d).take 18=cI n:=by rw[cR,Ce (by rw[dZ];decide)];exact(oL (dZ n)).2.1
theorem aEd (n d:Int):(cR n d).drop 18=cI d:=by rw[cR,Il (by rw[dZ];decide),(oL (dZ n)).2.2,Db]
theorem ZG (n d:Int):bO (cR n d)=true:=by rw[cR,gD,dG,dG];rfl
theorem CK {a:List AV} {x:Int} (ha:mD a (some x)) (H:aA):Sg 221 [.agg a] H (.ret (.bool true)) H:=by
 refine So aZj Zbx ?_ H;unfold aOf;dsimp only;have la:=ha.len;obtain⟨rfl,hz⟩:=ha.some
 have hv:∀H,Sg 219 [.agg (cI x)] H (.ret (.bool true)) H:=fun H=>by
  have :=UC false (decide (x<0)) (.bJ x.natAbs) H
  have e:(!decide (bJ 16 x.natAbs=zs)|| !decide (x<0))=true:=by
   by_cases h:x<0
   . have :decide (bJ 16 x.natAbs=zs)=false:=(by rw[Ag];rw[AN hz];omega);rw[this];rfl
   rw[Ag h];simp
  rw[if_neg (by decide),e] at this;exact this
 have e0:(cI x).getD 0 aD=.bool false:=rfl;simp only[↓zP,zJ,seval,la,e0];refine bY (hv _) ?_;refine Tz ?_;exact ZaQ
theorem aBl (H:aA):Sg 166 [] H (.ret (.agg (cI 1))) H:=by refine Sp aKd Zag Zav ?_ H;unfold aDf;dsimp only;refine Ty ?_;refine bY (Mr (z:=1) (by decide) (by decide) _) ?_;refine Ty ?_;refine Rx ?_;rfl
theorem nh {n d:Int} (hn:n.natAbs<2^64) (hd:d.natAbs<2^64) (hp:0<d) (hg:Int.gcd n d=1) (H:aA):Sg 168 [.agg (cR n d)] H (.ret (.bool true)) H:=by
 refine So aXz (by simp only[sf,ZG]) ?_ H;unfold aMv;dsimp only;have wn:n.natAbs<W^16:=De hn (by decide);have wd:d.natAbs<W^16:=De hd (by decide);have g1:=CK (.enc wn);have g2:=CK (.enc wd);have sg:=MG (.enc wd);have gc:=JN (.enc wn) (.enc wd) hn hd;rw[hg] at gc
 have e1:decide (yR (some d)>0)=true:=by simp only[yR];split<;>(try split)<;>first|omega|rfl
 have l1:=su n d;have l2:=aEe n d;have l3:=aEd n d;have mE:∀z,(cI z).length=18:=fun z=>dZ z;have eqq:cL [.b,.b,.i,.i,.i,.i,.i,.i,.i,.i,.i,.i,.i,.i,.i,.i,.i,.i] (cI 1) (cI 1)=some true:=by rfl
 simp only[↓zP,zJ,seval,l1,l2];refine bY (g1 _) ?_;simp only[↓zP,zJ,seval,l1,l3,oL (mE _)];refine bY (g2 _) ?_;simp only[↓zP,zJ,seval,l1,l3,oL (mE _)];refine bY (sg _) ?_;simp only[↓zP,zJ,seval,l1,l2,l3,oL (mE _),e1];refine bY (gc _) ?_;refine Tz ?_;refine bY (aBl _) ?_;simp only[↓zP,zG,seval,eqq];exact ZaQ
def wM (n d:Int):Int:=if d<0 then -(Int.gcd n d:Int) else(Int.gcd n d:Int)
theorem nm {a b:List AV} {n d:Int} (ha:mD a (some n)) (hb:mD b (some d)) (Xf: -2^63<n) (KK:n<2^63) (hd0: -2^63<d) (MK:d<2^63) (hd:d≠0) (H:aA):
 Sg 165 [.agg a,.agg b] H (.ret (.agg (cR (EN n (wM n d)).1 (EN d (wM n d)).1))) H:=by
 refine Sp aXy ZaB (by simp only[sf,ZG]) ?_ H;unfold aMu;dsimp only;have g1:=CK ha;have g2:=CK hb;have sg:=MG hb;have gc:=JN ha hb (by omega) (by omega);have la:=ha.len;have lb:=hb.len;have mE:∀z,(cI z).length=18:=fun z=>dZ z;have JE:(AV.bool false::AV.bool false::wC zs).length=18:=by simp[dM];rfl
 have hgz:(Int.gcd n d)≠0:=fun h=>hd (Int.gcd_eq_zero_iff.1 h).2;have hgl:Int.gcd n d<=d.natAbs:=Nat.gcd_le_right _ (by omega)
 have e1:(yR (some d)==0)=false:=by simp only[yR];split<;>(try split)<;>first|rfl|omega
 have e2:decide (yR (some d)<0)=decide (d<0):=by rw[Bs];simp only[yR];split<;>(try split)<;>omega
 have hwg:(Int.gcd n d:Int).natAbs<W^16:=De (show(Int.gcd n d:Int).natAbs<2^63 by omega) (by decide);have ng:=Wi (.enc hwg);have hwm:(wM n d).natAbs<W^16:=by unfold wM;split<;>omega
 have MR:wM n d≠0:=by unfold wM;split<;>omega
 have eQ: -2^63<wM n d:=by unfold wM;split<;>omega
 have gJ:wM n d<2^63:=by unfold wM;split<;>omega
 have q1:=JP ha (.enc hwm) Xf KK eQ gJ MR;have q2:=JP hb (.enc hwm) hd0 MK eQ gJ MR;refine bQ ?_;refine Ty ?_;refine bR ?_;generalize hX:(((aA.mk 0 .nil).alloc _).alloc _).alloc _=HA;have hn3:HA.next=3:=by subst hX;rfl
 have ET:HA.get 0=some (.cells a false):=by subst hX;simp only[zI,seval]
 have XU:HA.get 1=some (.cells b false):=by subst hX;simp only[zI,seval]
 obtain⟨zz,jh,z36⟩:∃zz,HA.get 2=some (.cells zz false)/\zz.length=36:=by subst hX;refine⟨_,by simp only[zI,seval];rfl,?_⟩;rfl
 clear hX;refine bQ ?_;simp only[↓zP,zJ,seval,ET,oL la];refine bY (g1 _) ?_;simp only[↓zP,zJ,seval,XU,oL lb];refine bY (g2 _) ?_;simp only[↓zP,zJ,seval,XU,oL lb];refine bY (sg _) ?_;simp only[↓zP,zG,seval,e1];refine bR ?_;refine bV fun f hf=>?_;have f2:f 2=.ref 0 0:=by subst hf;simp only[zB,seval]
 have f3:f 3=.ref 1 0:=by subst hf;simp only[zB,seval]
 have f4:f 4=.ref 2 0:=by subst hf;simp only[zB,seval]
 clear hf;refine bQ ?_;simp only[↓zP,zJ,seval,f2,f3,ET,XU,oL la,oL lb];refine bY (gc _) ?_;simp only[↓zP,zJ,seval,hn3,mE,JE,oL JE];refine bR ?_;generalize hX:(HA.alloc _).set 3 _=HB;have h0:HB.get 0=some (.cells a false):=by subst hX;simp only[zI,seval,hn3,ET]
 have h1:HB.get 1=some (.cells b false):=by subst hX;simp only[zI,seval,hn3,XU]
 have h2:HB.get 2=some (.cells zz false):=by subst hX;simp only[zI,seval,hn3,jh]
 have h3:HB.get 3=some (.cells (cI (Int.gcd n d)) false):=by subst hX;simp only[zI,seval]
 clear hX ET XU jh hn3 HA;refine bV fun f' hf=>?_;have f2':=Ks hf f2;have f3':=Ks hf f3;have SL:=Ks hf f4;have XO:f' 5=.ref 3 0:=by subst hf;simp only[zB,seval]
 clear hf f2 f3 f4 f;refine aN fun K hK=>?_
 have key:∀(f:dE) (HC:aA),f 2=.ref 0 0->f 3=.ref 1 0->f 4=.ref 2 0->f 5=.ref 3 0->HC.get 0=some (.cells a false)->HC.get 1=some (.cells b false)->HC.get 2=some (.cells zz false)->HC.get 3=some (.cells (cI (wM n d)) false)->K f [] HC:=by
  intro f HC f2 f3 f4 f5 h0 h1 h2 h3;apply hK;clear hK K;refine bQ ?_;refine Dz ?_;generalize (EN n (wM n d)).1=qa at *;generalize (EN d (wM n d)).1=qb at *;have k1:(cI qa++AV.bool false::AV.bool false::wC zs).length=36:=by rw[Ba,mE,JE]
  have k2:(cI qa++AV.bool false::AV.bool false::wC zs).take 18=cI qa:=by rw[Ce (by rw[mE];decide)];exact(oL (mE qa)).2.1
  have hcR:cI qa++cI qb=cR qa qb:=rfl;have Ze:=oL (su qa qb);have k3:(cI qa++AV.bool false::AV.bool false::wC zs).drop 36=[]:=Gs (by rw[k1];decide);simp only[↓zP,zJ,seval,zD,f2,f5,h0,h3,oL la,oL (mE _)];refine fP (q1 _) ?_;simp only[↓zP,zJ,seval,zD,f3,f5,h1,h3,oL lb,oL (mE _)];refine fP (q2 _) ?_;simp only[↓zP,zJ,seval,zD,f4,h0,h1,h2,h3,oL (mE _),z36,oL z36,k1,k2,k3,hcR,Ze];refine bR ?_;refine Tx ?_;refine⟨rfl,_,by simp only[↓zP,zR,seval,f4,Ze];rfl,?_⟩;rfl
 simp only[↓zP,zJ,seval,f3',h1,oL lb];refine bY (sg _) ?_;simp only[↓zP,zG,seval,e2];refine⟨fun hdn=>?_,fun hdn=>?_⟩
 . have em:wM n d= -(Int.gcd n d:Int):=by unfold wM;rw[if_pos hdn]
   have ev:AV.agg (cO (Xw (some (Int.gcd n d:Int))))=AV.agg (cI (wM n d)):=(by rw[em];rfl);rw[ev] at ng;simp only[zJ,seval,XO,h3,oL (mE _)];refine bY (ng _) ?_;simp only[↓zP,zJ,seval,XO,h3,oL (mE _)];refine key _ _ ?_ ?_ ?_ ?_ ?_ ?_ ?_ ?_
   . simp only[zB,seval];exact f2'
   . simp only[zB,seval];exact f3'
   . simp only[zB,seval];exact SL
   . simp only[zB,seval];exact XO
   . simp only[zI,seval,h0]
   . simp only[zI,seval,h1]
   . simp only[zI,seval,h2]
   simp only[zI,seval]
 have em:wM n d=(Int.gcd n d:Int):=by unfold wM;rw[if_neg hdn]
 rw[<-em] at h3;refine key _ _ ?_ ?_ ?_ ?_ h0 h1 h2 h3
 . simp only[zB,seval];exact f2'
 . simp only[zB,seval];exact f3'
 . simp only[zB,seval];exact SL
 simp only[zB,seval];exact XO
end Go.Proofs.YtgggiembljfnhaaGreatDoor
namespace Go.Proofs.YtgggiembljfnhaaGreatDoor
open Go Go.Av Go.aP
def plX (l:List aP.V) (q:aP.V×Int):List Nat:=aAj (kI (fun i=>l.getD i V0) l.length q.1 q.2) (uH q.1 (fun i=>l.getD i V0) (kI (fun i=>l.getD i V0) l.length q.1 q.2))
theorem ZS {l:List aP.V} (hl:l.Pairwise iY) {q:aP.V×Int} (hq:q∈nI l):qD l q=plX l q:=aHk ((uL hl).po q hq)
theorem ZT {l:List aP.V} {S:List (aP.V×Int)} (h:gg (fun i=>l.getD i V0) l.length S=true):nI l=S:=(BP l).uniq (HE h)
theorem Vz {S:List (aP.V×Int)} {L L':aP.V×Int->List Nat} (h:∀q∈S,L q=L' q) (k:Nat):gS S L k=gS S L' k:=by
 unfold gS;rw[Ci,Bz,Bz];constructor
 . rintro⟨q,hq,hk⟩;exact⟨q,hq,by rw[<-h q hq];exact hk⟩
 rintro⟨q,hq,hk⟩;exact⟨q,hq,by rw[h q hq];exact hk⟩
theorem Wv (l C:List aP.V) {S:List (aP.V×Int)} {L L':aP.V×Int->List Nat} (h:∀q∈S,L q=L' q):NL l C S L=NL l C S L':=by
 have hL:iH C S L=iH C S L':=by unfold iH;rw[show gS S L=gS S L' from funext (Vz h)]
 have hO:jC l C S L=jC l C S L':=by unfold jC;rw[hL]
 unfold NL;rw[hO,hL]
def oe:List aP.V->Bool
 |[]=>true
 |v::r=>(r.all fun x=>ltV v x)&&oe r
theorem Mf:∀{l:List aP.V},oe l=true->l.Pairwise iY
 |[],_=>.nil
 |q::r,h=>by simp only[oe,Al,Aw] at h;exact Cl.2 ⟨fun x hx=>au.1 (h.1 x hx),Mf h.2⟩
theorem aEf {l:List aP.V} {S:List (aP.V×Int)} (hl:oe l=true) (h:gg (fun i=>l.getD i V0) l.length S=true):uY l=NL l l S (plX l):=by have hs:=Mf hl;unfold uY;rw[Oa hs,Wv l l (S:=nI l) fun q hq=>ZS hs hq,ZT h]
theorem ue {l:List aP.V} {S:List (aP.V×Int)} (hl:oe l=true) (h:gg (fun i=>l.getD i V0) l.length S=true):xF l S (plX l) where
 fl:=HE h
 po q hq:=by
  have j5:q∈nI l:=by rw[ZT h];exact hq
  have :=(uL (Mf hl)).po q j5
  rwa [ZS (Mf hl) j5] at this
def zY (o:Int) (p:Int):List aP.V:=[⟨o,p,p⟩,⟨o,p,p+2⟩,⟨o,p+2,p⟩,⟨o,p+2,p+2⟩,⟨o+2,p,p⟩,⟨o+2,p,p+2⟩,⟨o+2,p+2,p⟩,⟨o+2,p+2,p+2⟩]
def tj (o:Int) (p:Int):List (aP.V×Int):=[(⟨-1,0,0⟩,-o),(⟨0,-1,0⟩,-p),(⟨0,0,-1⟩,-p),(⟨0,0,1⟩,p+2),(⟨0,1,0⟩,p+2),(⟨1,0,0⟩,o+2)]
theorem ZK:gg (fun i=>(zY 0 0).getD i V0) (zY 0 0).length (tj 0 0)=true:=by decide+kernel
theorem ZL:oe (zY 0 0)=true:=by decide+kernel
theorem QV:uY (zY 0 0)=0:=by rw[aEf ZL ZK];decide+kernel
def NT (o p:Int):AV:=.bD 0 3 (cH (zY o p))
theorem iu (o p:Int):vS (NT o p,zY o p):=.inr rfl
theorem aGh (H:aA):Sg 158 [.agg [NT 0 0]] H (.ret (.bD (H.next+2) 5 ((tj 0 0).map (dW (plX (zY 0 0)))))) (H.alloc .tok):=by have hn:∀v∈zY 0 0,cG (2^18) v:=(NJ QV).2.2.2.2.2.2;exact eo (tag:=0) rfl hn (Ab _) (by decide) (ue ZL ZK) (by decide) H
end Go.Proofs.YtgggiembljfnhaaGreatDoor
namespace Go.Proofs.YtgggiembljfnhaaGreatDoor
open Go Go.Av Go.uE Go.aP
def aEp:List AV->Option (Int×Int)
 |[.agg a,.agg b]=>match NV a,NV b with
  |some (some x),some (some y)=>some (x,y)
  |_,_=>none
 |_=>none
theorem ZM {args:List AV} {x y:Int} (h:aEp args=some (x,y)):∃a b,args=[.agg a,.agg b]/\mD a (some x)/\mD b (some y):=by
 unfold aEp at h;split at h
 . rename_i a b;split at h
   . rename_i x' y' hx hy;cases h;exact⟨a,b,rfl,sH hx,sH hy⟩
   cases h
 cases h
def aRn:List AV->Option (Int×Int)
 |[.agg c]=>match NV (c.take 18),NV (c.drop 18) with
  |some (some x),some (some y)=>some (x,y)
  |_,_=>none
 |_=>none
theorem aEq {args:List AV} {x y:Int} (h:aRn args=some (x,y)):args=[.agg (cR x y)]:=by
 unfold aRn at h;split at h
 . rename_i c;split at h
   . rename_i x' y' hx hy;cases h;have e1:=(sH hx).some.1;have e2:=(sH hy).some.1;rw[cR,<-e1,<-e2,Ie]
   cases h
 cases h
def aJb (x y:Int):Bool:=Nat.blt x.natAbs (2^64)&&Nat.blt y.natAbs (2^64)&&decide (0<y)&&Nat.beq (Int.gcd x y) 1
def yg:List AV->Bool
 |[.agg c]=>rH (tK c) [NT 0 0]
 |_=>false
def aIv:List (List AV):=[
 [.int .i64 (-1),.int .i64 0,.int .i64 0,.int .i64 0,.bD 0 1 [[.int .i64 0],[.int .i64 1],[.int .i64 3],[.int .i64 2]]],
 [.int .i64 0,.int .i64 (-1),.int .i64 0,.int .i64 0,.bD 0 1 [[.int .i64 0],[.int .i64 4],[.int .i64 5],[.int .i64 1]]],
 [.int .i64 0,.int .i64 0,.int .i64 (-1),.int .i64 0,.bD 0 1 [[.int .i64 0],[.int .i64 2],[.int .i64 6],[.int .i64 4]]],
 [.int .i64 0,.int .i64 0,.int .i64 1,.int .i64 2,.bD 0 1 [[.int .i64 1],[.int .i64 5],[.int .i64 7],[.int .i64 3]]],
 [.int .i64 0,.int .i64 1,.int .i64 0,.int .i64 2,.bD 0 1 [[.int .i64 2],[.int .i64 3],[.int .i64 7],[.int .i64 6]]],
 [.int .i64 1,.int .i64 0,.int .i64 0,.int .i64 2,.bD 0 1 [[.int .i64 4],[.int .i64 6],[.int .i64 7],[.int .i64 5]]]]
theorem th:(tj 0 0).map (dW (plX (zY 0 0)))=aIv:=by kernel_rfl
def bDr (f:FuncId) (args:List AV) (H:aA):Option (Out×aA):=
 match aTv f args with
 |some v=>some (.ret v,H)
 |none=>match Nat.beq f 170 with
 |true=>match aEp args with
  |some (x,y)=>match Nat.blt x.natAbs (2^64)&&Nat.blt y.natAbs (2^64) with
   |true=>some (.ret (.agg (cI (Int.gcd x y))),H)
   |false=>none
  |none=>none
 |false=>match Nat.beq f 165 with
 |true=>match aEp args with
  |some (x,y)=>match TV x y with
   |true=>some (.ret (.agg (cR (EN x (wM x y)).1 (EN y (wM x y)).1)),H)
   |false=>none
  |none=>none
 |false=>match Nat.beq f 168 with
 |true=>match aRn args with
  |some (x,y)=>match aJb x y with
   |true=>some (.ret (.bool true),H)
   |false=>none
  |none=>none
 |false=>match Nat.beq f 158 with
 |true=>match yg args with
  |true=>some (.ret (.bD (H.next+2) 5 aIv),H.alloc .tok)
  |false=>none
 |false=>none
theorem qT:LA Tryz.prog gv bDr:=by
 intro f args H out H' h;unfold bDr at h;split at h
 . rename_i v hv;cases h;exact aHd hv H
 split at h
 . rename_i hf;obtain rfl:=Be hf;split at h
   . rename_i x y hd;obtain⟨a,b,rfl,ha,hb⟩:=ZM hd;split at h
     . rename_i hc;cases h;simp only[Al,Gq] at hc;exact JN ha hb hc.1 hc.2 H
     cases h
   cases h
 split at h
 . rename_i hf;obtain rfl:=Be hf;split at h
   . rename_i x y hd;obtain⟨a,b,rfl,ha,hb⟩:=ZM hd;split at h
     . rename_i hc;cases h;simp only[TV,Al,Cn,Bd,Bh] at hc;obtain⟨⟨⟨⟨c1,c2⟩,c3⟩,c4⟩,c5⟩:=hc;exact nm ha hb c1 c2 c3 c4 c5 H
     cases h
   cases h
 split at h
 . rename_i hf;obtain rfl:=Be hf;split at h
   . rename_i x y hd;obtain rfl:=aEq hd;split at h
     . rename_i hc;cases h;simp only[aJb,Al,Bd,Gq] at hc;obtain⟨⟨⟨c1,c2⟩,c3⟩,c4⟩:=hc;exact nh c1 c2 c3 (Be c4) H
     cases h
   cases h
 split at h
 . rename_i hf;obtain rfl:=Be hf;split at h
   . rename_i hc;cases h
     obtain⟨c,rfl,hc⟩:∃c,args=[.agg c]/\rH (tK c) [NT 0 0]=true:=by
      unfold yg at hc;split at hc
      . exact⟨_,rfl,hc⟩
      cases hc
     refine Sound.fgt ?_
     have e:tK [AV.agg c]=[.agg [NT 0 0]]:=by rw[tK,fgt,tK,nL _ _ hc]
     rw[e,<-th];exact aGh H
   cases h
 cases h
end Go.Proofs.YtgggiembljfnhaaGreatDoor
namespace Go.Proofs.YtgggiembljfnhaaGreatDoor
open Go Go.Av Go.aP
def bIu:FT:=.node 141 (.node 74 (.node 34 (.node 27 (.node 14 (.node 11 (.leaf 8 W8.1) (.leaf 11 W11.1)) (.node 16 (.leaf 14 W14.1) (.node 26 (.leaf 16 W16.1) (.leaf 26 W26.1)))) (.node 31 (.node 28 (.leaf 27 W27.1) (.node 29 (.leaf 28 W28.1) (.leaf 29 W29.1))) (.node 32 (.leaf 31 W31.1) (.node 33 (.leaf 32 W32.1) (.leaf 33 W33.1))))) (.node 66 (.node 44 (.node 39 (.leaf 34 W34.1) (.node 40 (.leaf 39 W39.1) (.leaf 40 W40.1))) (.node 45 (.leaf 44 W44.1) (.node 65 (.leaf 45 W45.1) (.leaf 65 W65.1)))) (.node 70 (.node 67 (.leaf 66 W66.1) (.node 69 (.leaf 67 W67.1) (.leaf 69 W69.1))) (.node 72 (.leaf 70 W70.1) (.node 73 (.leaf 72 W72.1) (.leaf 73 W73.1)))))) (.node 111 (.node 88 (.node 77 (.node 75 (.leaf 74 W74.1) (.node 76 (.leaf 75 W75.1) (.leaf 76 W76.1))) (.node 79 (.leaf 77 W77.1) (.node 86 (.leaf 79 W79.1) (.leaf 86 W86.1)))) (.node 107 (.node 105 (.leaf 88 W88.1) (.node 106 (.leaf 105 aCu.1) (.leaf 106 aLl.1))) (.node 108 (.leaf 107 aLm.1) (.node 109 (.leaf 108 aLn.1) (.leaf 109 aLo.1))))) (.node 131 (.node 127 (.node 112 (.leaf 111 aLp.1) (.node 113 (.leaf 112 aCv.1) (.leaf 113 aCw.1))) (.node 129 (.leaf 127 aLx.1) (.node 130 (.leaf 129 aLz.1) (.leaf 130 aMa.1)))) (.node 134 (.node 132 (.leaf 131 aMb.1) (.node 133 (.leaf 132 aMc.1) (.leaf 133 aMd.1))) (.node 139 (.leaf 134 aMe.1) (.node 140 (.leaf 139 aMf.1) (.leaf 140 aMg.1))))))) (.node 232 (.node 181 (.node 174 (.node 163 (.node 142 (.leaf 141 aMh.1) (.node 162 (.leaf 142 aCz.1) (.leaf 162 aMs.1))) (.node 166 (.leaf 163 aDe.1) (.node 167 (.leaf 166 aDf.1) (.leaf 167 aDg.1)))) (.node 178 (.node 175 (.leaf 174 aMz.1) (.node 176 (.leaf 175 aNa.1) (.leaf 176 aNb.1))) (.node 179 (.leaf 178 aNd.1) (.node 180 (.leaf 179 aDi.1) (.leaf 180 aNe.1))))) (.node 217 (.node 188 (.node 186 (.leaf 181 aNf.1) (.node 187 (.leaf 186 aNg.1) (.leaf 187 aNh.1))) (.node 189 (.leaf 188 aNi.1) (.node 190 (.leaf 189 aNj.1) (.leaf 190 aDj.1)))) (.node 224 (.node 218 (.leaf 217 aOc.1) (.node 219 (.leaf 218 aOd.1) (.leaf 219 aDo.1))) (.node 230 (.leaf 224 aDp.1) (.node 231 (.leaf 230 aOm.1) (.leaf 231 aOn.1)))))) (.node 255 (.node 238 (.node 235 (.node 233 (.leaf 232 aOo.1) (.node 234 (.leaf 233 aOp.1) (.leaf 234 aOq.1))) (.node 236 (.leaf 235 aOr.1) (.node 237 (.leaf 236 aOs.1) (.leaf 237 aOt.1)))) (.node 252 (.node 246 (.leaf 238 aOu.1) (.node 250 (.leaf 246 aOv.1) (.leaf 250 aOw.1))) (.node 253 (.leaf 252 aOx.1) (.node 254 (.leaf 253 aOy.1) (.leaf 254 aOz.1))))) (.node 292 (.node 285 (.node 256 (.leaf 255 aPa.1) (.node 277 (.leaf 256 aDq.1) (.leaf 277 aPs.1))) (.node 289 (.leaf 285 aPw.1) (.node 291 (.leaf 289 aPx.1) (.leaf 291 aPz.1)))) (.node 301 (.node 293 (.leaf 292 aQa.1) (.node 294 (.leaf 293 aQb.1) (.leaf 294 aQc.1))) (.node 323 (.leaf 301 aQd.1) (.node 325 (.leaf 323 aQq.1) (.leaf 325 aQr.1)))))))
theorem sQ:bIu.o7 fun f F=>∃mu,kM Tryz.prog gv mu f F:=⟨⟨⟨⟨⟨⟨⟨_,is8⟩,⟨_,aWr⟩⟩,⟨⟨_,aXj⟩,⟨⟨_,bHd⟩,⟨_,bHh⟩⟩⟩⟩,⟨⟨⟨_,bHi⟩,⟨⟨_,bHj⟩,⟨_,bBc⟩⟩⟩,⟨⟨_,bHk⟩,⟨⟨_,bBv⟩,⟨_,bBy⟩⟩⟩⟩⟩,⟨⟨⟨⟨_,bCf⟩,⟨⟨_,bCn⟩,⟨_,bCo⟩⟩⟩,⟨⟨_,bHs⟩,⟨⟨_,bHt⟩,⟨_,bIc⟩⟩⟩⟩,⟨⟨⟨_,bCq⟩,⟨⟨_,bCr⟩,⟨_,bId⟩⟩⟩,⟨⟨_,bIe⟩,⟨⟨_,bCu⟩,⟨_,bCv⟩⟩⟩⟩⟩⟩,⟨⟨⟨⟨⟨_,bCw⟩,⟨⟨_,bCx⟩,⟨_,bCy⟩⟩⟩,⟨⟨_,bCz⟩,⟨⟨_,bDa⟩,⟨_,bDb⟩⟩⟩⟩,⟨⟨⟨_,bIn⟩,⟨⟨_,aJs⟩,⟨_,aWn⟩⟩⟩,⟨⟨_,aWo⟩,⟨⟨_,aWp⟩,⟨_,aWq⟩⟩⟩⟩⟩,⟨⟨⟨⟨_,aWs⟩,⟨⟨_,aJt⟩,⟨_,aJu⟩⟩⟩,⟨⟨_,aXa⟩,⟨⟨_,aXc⟩,⟨_,aXd⟩⟩⟩⟩,⟨⟨⟨_,aXe⟩,⟨⟨_,aXf⟩,⟨_,aXg⟩⟩⟩,⟨⟨_,aXh⟩,⟨⟨_,aXi⟩,⟨_,aXk⟩⟩⟩⟩⟩⟩⟩,⟨⟨⟨⟨⟨⟨_,aXl⟩,⟨⟨_,aJx⟩,⟨_,aXw⟩⟩⟩,⟨⟨_,aKc⟩,⟨⟨_,aKd⟩,⟨_,aKe⟩⟩⟩⟩,⟨⟨⟨_,aYd⟩,⟨⟨_,aYe⟩,⟨_,aYf⟩⟩⟩,⟨⟨_,aYh⟩,⟨⟨_,aKg⟩,⟨_,aYi⟩⟩⟩⟩⟩,⟨⟨⟨⟨_,aYj⟩,⟨⟨_,aYk⟩,⟨_,aYl⟩⟩⟩,⟨⟨_,aYm⟩,⟨⟨_,aYn⟩,⟨_,aKh⟩⟩⟩⟩,⟨⟨⟨_,aZg⟩,⟨⟨_,aZh⟩,⟨_,aKm⟩⟩⟩,⟨⟨_,aKn⟩,⟨⟨_,aZq⟩,⟨_,aZr⟩⟩⟩⟩⟩⟩,⟨⟨⟨⟨⟨_,aZs⟩,⟨⟨_,aZt⟩,⟨_,aZu⟩⟩⟩,⟨⟨_,aZv⟩,⟨⟨_,aZw⟩,⟨_,aZx⟩⟩⟩⟩,⟨⟨⟨_,aZy⟩,⟨⟨_,aZz⟩,⟨_,bAa⟩⟩⟩,⟨⟨_,bAb⟩,⟨⟨_,bAc⟩,⟨_,bAd⟩⟩⟩⟩⟩,⟨⟨⟨⟨_,bAe⟩,⟨⟨_,aKo⟩,⟨_,bAw⟩⟩⟩,⟨⟨_,bBa⟩,⟨⟨_,bBb⟩,⟨_,bBe⟩⟩⟩⟩,⟨⟨⟨_,bBf⟩,⟨⟨_,bBg⟩,⟨_,bBh⟩⟩⟩,⟨⟨_,bBi⟩,⟨⟨_,bBw⟩,⟨_,bBx⟩⟩⟩⟩⟩⟩⟩⟩
def DA (g:bG) (T:FT) (WW:Lp):List Fact->List Fact->Bool
 |_,[]=>true
 |K,e::es=>match ran g T (aHa K WW) aKv 2 e with
  |true=>DA g T WW (e::K) es
  |false=>false
theorem vO.DA {g:bG} {T:FT} {o:Lp} (hm:Fit Tryz.prog g) (hg:DF g) (hT:T.o7 fun f F=>∃mu,kM Tryz.prog g mu f F) (ho:LA Tryz.prog g o):∀(es:List Fact) {K:List Fact},vO Tryz.prog g K->DA g T o K es=true->vO Tryz.prog g (es.reverseAux K)
 |[],_,hK,_=>hK
 |e::es,K,hK,h=>by
  unfold Proofs.YtgggiembljfnhaaGreatDoor.DA at h;split at h
  . rename_i h1;exact vO.DA hm hg hT ho es (hK.ran hm hg hT ho zm 2 h1) h
  cases h
def v3 (a b c:Int):List AV:=cR a 1++cR b 1++cR c 1
def QW:AV:=.bD 0 3 [iC [0,0,0],iC [0,0,2],iC [0,2,0],iC [0,2,2],iC [2,0,0],iC [2,0,2],iC [2,2,0],iC [2,2,2]]
def p0:List AV:=iC [0,0,0,1,0,0,0]
def zz:AV:=.bD 0 3 [iC [0,0,0],iC [0,0,0]]
def bX (c:UInt8):List AV:=[.str [c],.bD 0 1 [[QW]],.int .i64 3,.int .i64 3,.int .i64 500,.int .i64 500]
def bA:List AV:=bX 97
def yX:List AV:=[.int .i64 10,.int .i64 500,.int .i64 500,.bD 0 14 [.int .i64 1::(bX 97++iC [90,0,0,1,0,0,0]),.int .i64 2::(bX 112++iC [95,0,0,1,0,0,0])],.bD 0 8 [iC [1,0,1,1,2,9,1,0]],.bD 0 10 [iC [1,0,1,1,5,0,0,7,0,0]]]
def sX (a t:Bool) (p:List AV):AV:=.agg [.bD 0 1 [[.bool a],[.bool false]],.bD 0 7 [p,iC [95,0,0,1,0,0,0]],zz,zz,.bD 0 1 [[.bool t]],.bD 0 1 [[.bool false]]]
def sA:AV:=sX false false (iC [90,0,0,1,0,0,0])
def sB:AV:=sX true false p0
def sC:AV:=sX true true p0
def pts:AV:=.bD 0 108 [v3 0 0 0,v3 0 0 2,v3 0 2 0,v3 0 2 2,v3 2 0 0,v3 2 0 2,v3 2 2 0,v3 2 2 2]
theorem aTm (H:aA):Sg 102 [.agg [QW]] H (.ret (.int .i64 0)) H:=by have :=Po (p:=(NT 0 0,zY 0 0)) (iu 0 0) (by decide) H;rw[show uY ((NT 0 0,zY 0 0):AV×List V).2=0 from QV] at this;exact this
def bEl:FT:=.node 101 (.leaf 64 W64.1) (.node 103 (.leaf 101 aLj.1) (.leaf 103 aLk.1))
theorem aEh:bEl.o7 fun f F=>∃mu,kM Tryz.prog gv mu f F:=⟨⟨_,bIb⟩,⟨⟨_,aWl⟩,⟨_,aWm⟩⟩⟩
def kY9:List Fact:=[(102,[.agg [QW]],.int .i64 0)]
theorem aTc:vO Tryz.prog gv kY9:=vO.nil.cons aTm
def eY9:List Fact:=[(64,[.agg (bX 112)],.int .i64 0),(64,[.agg (bX 97)],.int .i64 0)]
def kY0:List Fact:=eY9.reverseAux kY9
theorem aTb:vO Tryz.prog gv kY0:=vO.DA fit eZ aEh qT eY9 aTc (by kernel_rfl)
def eA:List Fact:=[(26,[.int .i64 90,.int .i64 0],.agg (iC [90,0,0,1,0,0,0])),
 (26,[.int .i64 95,.int .i64 0],.agg (iC [95,0,0,1,0,0,0])),
 (26,[.int .i64 0,.int .i64 9],.agg (iC [0,0,9,1,0,0,0])),
 (26,[.int .i64 0,.int .i64 0],.agg (p0)),
 (14,[.agg (yX)],sA),
 (27,[.agg (yX)],.int .i64 0),
 (28,[sA],.aO),
 (11,[.agg (yX),sA],.bool true),
 (29,[sA],.bool true),
 (8,[.agg (yX),sA,.agg ([.int .i64 1,.int .i64 1,.bD 0 7 [iC [0,0,9,1,0,0,0],p0]])],.iA [sB,.int .i64 0]),
 (29,[sB],.bool true),
 (8,[.agg (yX),sB,.agg ([.int .i64 1,.int .i64 1,.bD 0 7 [iC [0,0,9,1,0,0,0],p0]])],.iA [sB,.int .i64 4]),
 (8,[.agg (yX),sB,.agg ([.int .i64 2,.int .i64 1,.bD 0 7 [p0,iC [0,0,9,1,0,0,0]]])],.iA [sB,.int .i64 7]),
 (8,[.agg (yX),sB,.agg ([.int .i64 3,.int .i64 1,.aO])],.iA [sB,.int .i64 1]),
 (8,[.agg (yX),sB,.agg ([.int .i64 3,.int .i64 0,.aO])],.iA [sC,.int .i64 0]),
 (29,[sC],.bool true),
 (8,[.agg (yX),sC,.agg ([.int .i64 3,.int .i64 0,.aO])],.iA [sC,.int .i64 4]),
 (26,[.int .i64 5,.int .i64 0],.agg (iC [5,0,0,1,0,0,0])),
 (8,[.agg (yX),sC,.agg ([.int .i64 1,.int .i64 2,.bD 0 7 [iC [5,0,0,1,0,0,0]]])],.iA [sC,.int .i64 2]),
 (28,[sC],.bD 0 1 [iC [1]]),
 (31,[.bD 0 1 [iC [1]],.bD 0 1 [iC [1]]],.bool true),
 (16,[.agg ([.int .i64 3,.int .i64 0,.aO])],.bD 0 1 [[.int .u8 6],[.int .u8 0],[.int .u8 0]])]
def kYA:List Fact:=eA.reverseAux kY0
theorem aTd:vO Tryz.prog gv kYA:=vO.DA fit eZ sQ qT eA aTb (by kernel_rfl)
def eB0:List Fact:=[(69,[.agg (iC [0,0,0])],.agg (v3 0 0 0)),
 (107,[.agg (v3 0 0 0),.agg (v3 1 1 2)],.agg (v3 1 1 2)),
 (70,[.agg (p0),.agg (iC [1,1,2])],.agg (v3 1 1 2)),
 (69,[.agg (iC [9,1,0])],.agg (v3 9 1 0)),
 (109,[.bD 0 6 [bA],.bD 0 7 [p0]],.bool true),
 (179,[.agg (iC [0,0,1])],.agg (iC [0,0,(-1)])),
 (107,[.agg (v3 0 0 0),.agg (v3 0 0 0)],.agg (v3 0 0 0)),
 (70,[.agg (p0),.agg (iC [0,0,0])],.agg (v3 0 0 0)),
 (107,[.agg (v3 0 0 0),.agg (v3 0 0 2)],.agg (v3 0 0 2)),
 (70,[.agg (p0),.agg (iC [0,0,2])],.agg (v3 0 0 2)),
 (107,[.agg (v3 0 0 0),.agg (v3 0 2 0)],.agg (v3 0 2 0)),
 (70,[.agg (p0),.agg (iC [0,2,0])],.agg (v3 0 2 0))]
def bDd:List Fact:=eB0.reverseAux kYA
theorem aFs:vO Tryz.prog gv bDd:=vO.DA fit eZ sQ qT eB0 aTd (by kernel_rfl)
def eB1:List Fact:=[(107,[.agg (v3 0 0 0),.agg (v3 0 2 2)],.agg (v3 0 2 2)),
 (70,[.agg (p0),.agg (iC [0,2,2])],.agg (v3 0 2 2)),
 (107,[.agg (v3 0 0 0),.agg (v3 2 0 0)],.agg (v3 2 0 0)),
 (70,[.agg (p0),.agg (iC [2,0,0])],.agg (v3 2 0 0)),
 (107,[.agg (v3 0 0 0),.agg (v3 2 0 2)],.agg (v3 2 0 2)),
 (70,[.agg (p0),.agg (iC [2,0,2])],.agg (v3 2 0 2)),
 (107,[.agg (v3 0 0 0),.agg (v3 2 2 0)],.agg (v3 2 2 0)),
 (70,[.agg (p0),.agg (iC [2,2,0])],.agg (v3 2 2 0)),
 (107,[.agg (v3 0 0 0),.agg (v3 2 2 2)],.agg (v3 2 2 2)),
 (70,[.agg (p0),.agg (iC [2,2,2])],.agg (v3 2 2 2)),
 (180,[.agg (p0),.agg ([QW])],pts),
 (69,[.agg (iC [0,0,(-1)])],.agg (v3 0 0 (-1)))]
def bDe:List Fact:=eB1.reverseAux bDd
theorem aFt:vO Tryz.prog gv bDe:=vO.DA fit eZ sQ qT eB1 aFs (by kernel_rfl)
def eB2:List Fact:=[(231,[.agg (iC [0,0,(-1)]),.agg (v3 0 0 2)],.agg (cR (-2) 1)),
 (231,[.agg (iC [0,0,(-1)]),.agg (v3 0 0 0)],.agg (cR 0 1)),
 (231,[.agg (iC [0,0,(-1)]),.agg (v3 0 2 0)],.agg (cR 0 1)),
 (231,[.agg (iC [0,0,(-1)]),.agg (v3 0 2 2)],.agg (cR (-2) 1)),
 (231,[.agg (iC [0,0,(-1)]),.agg (v3 2 0 0)],.agg (cR 0 1)),
 (231,[.agg (iC [0,0,(-1)]),.agg (v3 2 0 2)],.agg (cR (-2) 1)),
 (231,[.agg (iC [0,0,(-1)]),.agg (v3 2 2 0)],.agg (cR 0 1)),
 (231,[.agg (iC [0,0,(-1)]),.agg (v3 2 2 2)],.agg (cR (-2) 1)),
 (178,[.agg (iC [0,0,(-1)]),pts],.bD 0 108 [v3 0 0 0,v3 0 2 0,v3 2 0 0,v3 2 2 0])]
def bDf:List Fact:=eB2.reverseAux bDe
theorem aFu:vO Tryz.prog gv bDf:=vO.DA fit eZ sQ qT eB2 aFt (by kernel_rfl)
def eC0:List Fact:=[(134,[.agg (cR 0 1)],.int .i64 0),
 (189,[.agg (v3 0 2 0),.agg (v3 0 0 0)],.agg (v3 0 2 0)),
 (189,[.agg (v3 2 0 0),.agg (v3 0 0 0)],.agg (v3 2 0 0)),
 (134,[.agg (cR (-4) 1)],.int .i64 (-1)),
 (238,[.agg ([.int .i64 0,.int .i64 1,.bool false]),.agg (v3 0 0 0),.agg (v3 0 2 0),.agg (v3 2 0 0)],.int .i64 (-1)),
 (189,[.agg (v3 2 2 0),.agg (v3 0 0 0)],.agg (v3 2 2 0)),
 (134,[.agg (cR 4 1)],.int .i64 1),
 (238,[.agg ([.int .i64 0,.int .i64 1,.bool false]),.agg (v3 0 0 0),.agg (v3 2 0 0),.agg (v3 2 2 0)],.int .i64 1),
 (189,[.agg (v3 0 0 0),.agg (v3 2 0 0)],.agg (v3 (-2) 0 0)),
 (189,[.agg (v3 0 2 0),.agg (v3 2 0 0)],.agg (v3 (-2) 2 0)),
 (238,[.agg ([.int .i64 0,.int .i64 1,.bool false]),.agg (v3 2 0 0),.agg (v3 0 0 0),.agg (v3 0 2 0)],.int .i64 (-1)),
 (189,[.agg (v3 2 0 0),.agg (v3 2 0 0)],.agg (v3 0 0 0))]
def bDg:List Fact:=eC0.reverseAux bDf
theorem aFv:vO Tryz.prog gv bDg:=vO.DA fit eZ sQ qT eC0 aFu (by kernel_rfl)
def eC1:List Fact:=[(238,[.agg ([.int .i64 0,.int .i64 1,.bool false]),.agg (v3 2 0 0),.agg (v3 0 2 0),.agg (v3 2 0 0)],.int .i64 0),
 (189,[.agg (v3 2 2 0),.agg (v3 2 0 0)],.agg (v3 0 2 0)),
 (238,[.agg ([.int .i64 0,.int .i64 1,.bool false]),.agg (v3 2 0 0),.agg (v3 0 2 0),.agg (v3 2 2 0)],.int .i64 (-1)),
 (189,[.agg (v3 0 0 0),.agg (v3 2 2 0)],.agg (v3 (-2) (-2) 0)),
 (189,[.agg (v3 0 2 0),.agg (v3 2 2 0)],.agg (v3 (-2) 0 0)),
 (238,[.agg ([.int .i64 0,.int .i64 1,.bool false]),.agg (v3 2 2 0),.agg (v3 0 0 0),.agg (v3 0 2 0)],.int .i64 (-1)),
 (189,[.agg (v3 2 0 0),.agg (v3 2 2 0)],.agg (v3 0 (-2) 0)),
 (238,[.agg ([.int .i64 0,.int .i64 1,.bool false]),.agg (v3 2 2 0),.agg (v3 0 2 0),.agg (v3 2 0 0)],.int .i64 1),
 (189,[.agg (v3 2 2 0),.agg (v3 2 2 0)],.agg (v3 0 0 0)),
 (238,[.agg ([.int .i64 0,.int .i64 1,.bool false]),.agg (v3 2 2 0),.agg (v3 0 2 0),.agg (v3 2 2 0)],.int .i64 0),
 (189,[.agg (v3 0 0 0),.agg (v3 0 2 0)],.agg (v3 0 (-2) 0)),
 (189,[.agg (v3 0 2 0),.agg (v3 0 2 0)],.agg (v3 0 0 0))]
def bDh:List Fact:=eC1.reverseAux bDg
theorem aFw:vO Tryz.prog gv bDh:=vO.DA fit eZ sQ qT eC1 aFv (by kernel_rfl)
def eC2:List Fact:=[(238,[.agg ([.int .i64 0,.int .i64 1,.bool false]),.agg (v3 0 2 0),.agg (v3 0 0 0),.agg (v3 0 2 0)],.int .i64 0),
 (189,[.agg (v3 2 0 0),.agg (v3 0 2 0)],.agg (v3 2 (-2) 0)),
 (238,[.agg ([.int .i64 0,.int .i64 1,.bool false]),.agg (v3 0 2 0),.agg (v3 0 0 0),.agg (v3 2 0 0)],.int .i64 1),
 (189,[.agg (v3 2 2 0),.agg (v3 0 2 0)],.agg (v3 2 0 0)),
 (238,[.agg ([.int .i64 0,.int .i64 1,.bool false]),.agg (v3 0 2 0),.agg (v3 0 0 0),.agg (v3 2 2 0)],.int .i64 1),
 (181,[.agg (iC [0,0,1]),.bD 0 108 [v3 0 0 0,v3 0 2 0,v3 2 0 0,v3 2 2 0]],.bD 0 108 [v3 0 0 0,v3 2 0 0,v3 2 2 0,v3 0 2 0])]
def bDi:List Fact:=eC2.reverseAux bDh
theorem aFx:vO Tryz.prog gv bDi:=vO.DA fit eZ sQ qT eC2 aFw (by kernel_rfl)
def eD0:List Fact:=[(69,[.agg (iC [0,0,1])],.agg (v3 0 0 1)),
 (254,[.agg (cI 16384)],.agg (cI 128)),
 (187,[.agg (iC [0,0,1]),.int .i64 500],.iA [.agg (iC [1,0,0,0,1,0]),.agg (cR 1 2++cR 1 2)]),
 (69,[.agg (iC [1,0,0])],.agg (v3 1 0 0)),
 (188,[.agg (cR 1 2),.agg (v3 1 0 0)],.agg (cR 1 2++cR 0 1++cR 0 1)),
 (107,[.agg (v3 0 0 1),.agg (cR 1 2++cR 0 1++cR 0 1)],.agg (cR 1 2++cR 0 1++cR 1 1)),
 (189,[.agg (v3 0 0 1),.agg (cR 1 2++cR 0 1++cR 0 1)],.agg (cR (-1) 2++cR 0 1++cR 1 1)),
 (69,[.agg (iC [0,1,0])],.agg (v3 0 1 0)),
 (188,[.agg (cR 1 2),.agg (v3 0 1 0)],.agg (cR 0 1++cR 1 2++cR 0 1)),
 (107,[.agg (v3 0 0 1),.agg (cR 0 1++cR 1 2++cR 0 1)],.agg (cR 0 1++cR 1 2++cR 1 1)),
 (189,[.agg (v3 0 0 1),.agg (cR 0 1++cR 1 2++cR 0 1)],.agg (cR 0 1++cR (-1) 2++cR 1 1)),
 (139,[.agg (iC [0,0,1]),.int .i64 500],.iA [.bD 0 108 [cR 1 2++cR 0 1++cR 1 1,cR (-1) 2++cR 0 1++cR 1 1,cR 0 1++cR 1 2++cR 1 1,cR 0 1++cR (-1) 2++cR 1 1],.int .i64 0])]
def bDj:List Fact:=eD0.reverseAux bDi
theorem aFy:vO Tryz.prog gv bDj:=vO.DA fit eZ sQ qT eD0 aFx (by kernel_rfl)
def eD1:List Fact:=[(140,[.bD 0 108 [v3 0 0 0,v3 2 0 0,v3 2 2 0,v3 0 2 0]],.bool true),
 (140,[.bD 0 108 [v3 1 1 2,v3 9 1 0]],.bool true),
 (111,[.agg ([.int .i64 10,.bD 0 6 [bA],.bD 0 7 [p0],.bD 0 6 [[.int .i64 0,.int .i64 1,.int .i64 0,.int .i64 0,.int .i64 1,.bD 0 108 [v3 0 0 0,v3 2 0 0,v3 2 2 0,v3 0 2 0]]],.bD 0 1 [iC [500]],.bD 0 218 [iC [1,0]++v3 1 1 2++v3 9 1 0],.aO])],.int .i64 0)]
def aTe:List Fact:=eD1.reverseAux bDj
theorem aFz:vO Tryz.prog gv aTe:=vO.DA fit eZ sQ qT eD1 aFy (by kernel_rfl)
end Go.Proofs.YtgggiembljfnhaaGreatDoor
namespace Go.Proofs.YtgggiembljfnhaaGreatDoor
open Go Go.Av
def rh:{x // KS Tryz.prog DL false Tryz.f135=some x}:=⟨_,cX⟩
theorem aSy:kM Tryz.prog DL false 135 rh.1:=jF Tryz.func135 (by kernel_rfl) rh.2
def rn:{x // KS Tryz.prog DL false Tryz.f136=some x}:=⟨_,cX⟩
theorem aSz:kM Tryz.prog DL false 136 rn.1:=jF Tryz.func136 (by kernel_rfl) rn.2
def q9:{x // KS Tryz.prog DL false Tryz.f110=some x}:=⟨_,vF⟩
theorem aSx:kM Tryz.prog DL false 110 q9.1:=jF Tryz.func110 (by kernel_rfl) q9.2
def aRh:{x // KS Tryz.prog DL false Tryz.f71=some x}:=⟨_,vF⟩
theorem bCt:kM Tryz.prog DL false 71 aRh.1:=jF Tryz.func71 (by kernel_rfl) aRh.2
def aQm:{x // KS Tryz.prog DL false Tryz.f30=some x}:=⟨_,vF⟩
theorem bBr:kM Tryz.prog DL false 30 aQm.1:=jF Tryz.func30 (by kernel_rfl) aQm.2
def aRg:{x // KS Tryz.prog DL false Tryz.f68=some x}:=⟨_,cX⟩
theorem bCs:kM Tryz.prog DL false 68 aRg.1:=jF Tryz.func68 (by kernel_rfl) aRg.2
def W7T:{x // KS Tryz.prog DL false Tryz.f7=some x}:=⟨_,cX⟩
theorem bIg:kM Tryz.prog DL false 7 W7T.1:=jF Tryz.func7 (by kernel_rfl) W7T.2
def aPe:{x // KS Tryz.prog DL false Tryz.f25=some x}:=⟨_,cX⟩
theorem bAi:kM Tryz.prog DL false 25 aPe.1:=jF Tryz.func25 (by kernel_rfl) aPe.2
def aRf:{x // KS Tryz.prog DL false Tryz.f63=some x}:=⟨_,cX⟩
theorem bCp:kM Tryz.prog DL false 63 aRf.1:=jF Tryz.func63 (by kernel_rfl) aRf.2
end Go.Proofs.YtgggiembljfnhaaGreatDoor
namespace Go.Proofs.YtgggiembljfnhaaGreatDoor
open Go Go.Av Go.aP
def bEa:FT:=.node 68 (.node 30 (.node 25 (.leaf 7 W7T.1) (.leaf 25 aPe.1)) (.node 63 (.leaf 30 aQm.1) (.leaf 63 aRf.1))) (.node 110 (.node 71 (.leaf 68 aRg.1) (.leaf 71 aRh.1)) (.node 135 (.leaf 110 q9.1) (.node 136 (.leaf 135 rh.1) (.leaf 136 rn.1))))
theorem aBo:bEa.o7 fun f F=>∃mu,kM Tryz.prog DL mu f F:=⟨⟨⟨⟨_,bIg⟩,⟨_,bAi⟩⟩,⟨⟨_,bBr⟩,⟨_,bCp⟩⟩⟩,⟨⟨⟨_,bCs⟩,⟨_,bCt⟩⟩,⟨⟨_,aSx⟩,⟨⟨_,aSy⟩,⟨_,aSz⟩⟩⟩⟩⟩
def bIt:Lp:=fun _ _ _=>none
theorem aHc:LA Tryz.prog DL bIt:=fun _ _ _ _ _ h=>by cases h
theorem aTg:vO Tryz.prog DL aTe:=aUn aFz (by kernel_rfl)
def eT:List Fact:=[(135,[.agg (p0),.agg ([QW])],.agg (cR 0 1)),
 (136,[.agg (p0),.agg ([QW])],.bD 0 108 [v3 0 0 0,v3 2 0 0,v3 2 2 0,v3 0 2 0]),
 (110,[.bD 0 6 [bA],.bD 0 7 [p0]],.iA [.bD 0 6 [[.int .i64 0,.int .i64 1,.int .i64 0,.int .i64 0,.int .i64 1,.bD 0 108 [v3 0 0 0,v3 2 0 0,v3 2 2 0,v3 0 2 0]]],.int .i64 0]),
 (7,[],.bool true)]
theorem aTf:vO Tryz.prog DL (eT.reverseAux aTe):=vO.DA aVd XV aBo aHc eT aTg (by kernel_rfl)
theorem nq (H:aA):St 7 [] H (.ret (.bool true)) H:=aTf _ Ar H
end Go.Proofs.YtgggiembljfnhaaGreatDoor
