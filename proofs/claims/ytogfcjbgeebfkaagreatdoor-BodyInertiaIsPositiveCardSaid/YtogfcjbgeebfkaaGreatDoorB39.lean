/-
  Part of the proof of statement 13
-/
import Derived.Test.YtogfcjbgeebfkaaGreatDoorB37
import Derived.Test.YtogfcjbgeebfkaaGreatDoorB09
import Derived.Test.YtogfcjbgeebfkaaGreatDoorB24
import Derived.Test.YtogfcjbgeebfkaaGreatDoorB07
import Derived.Test.YtogfcjbgeebfkaaGreatDoorB21
import Derived.Test.YtogfcjbgeebfkaaGreatDoorB23
import Derived.Test.YtogfcjbgeebfkaaGreatDoorB38
import Derived.Test.YtogfcjbgeebfkaaGreatDoorB08
import Derived.Test.YtogfcjbgeebfkaaGreatDoorB10
import Derived.Test.YtogfcjbgeebfkaaGreatDoorB12
import Derived.Test.YtogfcjbgeebfkaaGreatDoorB14
import Derived.Test.YtogfcjbgeebfkaaGreatDoorB16
import Derived.Test.YtogfcjbgeebfkaaGreatDoorB18
import Derived.Test.YtogfcjbgeebfkaaGreatDoorB25
import Derived.Test.YtogfcjbgeebfkaaGreatDoorB27
import Derived.Test.YtogfcjbgeebfkaaGreatDoorB29
import Derived.Test.YtogfcjbgeebfkaaGreatDoorB31
import Derived.Test.YtogfcjbgeebfkaaGreatDoorB33
import Derived.Test.YtogfcjbgeebfkaaGreatDoorB35
import Derived.Test.YtogfcjbgeebfkaaGreatDoorB20
import Derived.Test.YtogfcjbgeebfkaaGreatDoorB22
import Derived.Test.YtogfcjbgeebfkaaGreatDoorProg
import Derived.Shelf.Strings.OnBuilder
import Derived.Shelf.Strings.Count
import Derived.Shelf.Strings.Search3
set_option linter.unusedVariables false
set_option maxRecDepth 1000000
set_option linter.unusedSimpArgs false
set_option maxHeartbeats 16000000
namespace Go.Proofs
open Go.Shelf
def Tryz.Xr:Go.Shelf.Ren:=⟨fun |143=>266|219=>306|217=>328|225=>329|224=>330|267=>331|266=>352|314=>353|n=>n,fun |9=>9|3=>3|4=>4|5=>5|46=>151|146=>304|51=>26|n=>n,fun |1=>0|n=>n⟩
theorem Tryz.aNo:Go.Proofs.Lays.n143 Tryz.prog Tryz.Xr:={
 mixed:=by kernel_rfl
 f143:=Tryz.func266.trans (Al some (by kernel_rfl))
 f217:=Tryz.func328.trans (Al some (by kernel_rfl))
 f219:=Tryz.func306.trans (Al some (by kernel_rfl))
 f224:=Tryz.func330.trans (Al some (by kernel_rfl))
 f225:=Tryz.func329.trans (Al some (by kernel_rfl))
 f266:=Tryz.func352.trans (Al some (by kernel_rfl))
 f267:=Tryz.func331.trans (Al some (by kernel_rfl))
 f314:=Tryz.func353.trans (Al some (by kernel_rfl))
 t3:=Tryz.underlying3
 a3:=Tryz.isAgg3
 z3:=Tryz.sizeOf3
 v3:=Tryz.zeroValue3
 t4:=Tryz.underlying4
 a4:=Tryz.isAgg4
 z4:=Tryz.sizeOf4
 v4:=Tryz.zeroValue4
 t5:=Tryz.underlying5
 a5:=Tryz.isAgg5
 z5:=Tryz.sizeOf5
 v5:=Tryz.zeroValue5
 t9:=Tryz.underlying9
 a9:=Tryz.isAgg9
 z9:=Tryz.sizeOf9
 v9:=Tryz.zeroValue9
 t46:=Tryz.underlying151
 a46:=Tryz.isAgg151
 z46:=Tryz.sizeOf151
 v46:=Tryz.zeroValue151
 t51:=Tryz.underlying26
 a51:=Tryz.isAgg26
 z51:=Tryz.sizeOf26
 v51:=Tryz.zeroValue26
 t146:=Tryz.underlying304
 a146:=Tryz.isAgg304
 z146:=Tryz.sizeOf304
 v146:=Tryz.zeroValue304
 g1:=by kernel_rfl}
def Tryz.Xq:Go.Shelf.Ren:=⟨fun |138=>265|195=>303|218=>305|143=>266|219=>306|217=>328|225=>329|224=>330|267=>331|266=>352|314=>353|n=>n,fun |9=>9|3=>3|4=>4|5=>5|0=>0|46=>151|146=>304|51=>26|n=>n,fun |1=>0|n=>n⟩
theorem Tryz.aNn:Go.Proofs.Lays.n138 Tryz.prog Tryz.Xq:={
 mixed:=by kernel_rfl
 f138:=Tryz.func265.trans (Al some (by kernel_rfl))
 f143:=Tryz.func266.trans (Al some (by kernel_rfl))
 f195:=Tryz.func303.trans (Al some (by kernel_rfl))
 f217:=Tryz.func328.trans (Al some (by kernel_rfl))
 f218:=Tryz.func305.trans (Al some (by kernel_rfl))
 f219:=Tryz.func306.trans (Al some (by kernel_rfl))
 f224:=Tryz.func330.trans (Al some (by kernel_rfl))
 f225:=Tryz.func329.trans (Al some (by kernel_rfl))
 f266:=Tryz.func352.trans (Al some (by kernel_rfl))
 f267:=Tryz.func331.trans (Al some (by kernel_rfl))
 f314:=Tryz.func353.trans (Al some (by kernel_rfl))
 t0:=Tryz.underlying0
 a0:=Tryz.isAgg0
 z0:=Tryz.sizeOf0
 v0:=Tryz.zeroValue0
 t3:=Tryz.underlying3
 a3:=Tryz.isAgg3
 z3:=Tryz.sizeOf3
 v3:=Tryz.zeroValue3
 t4:=Tryz.underlying4
 a4:=Tryz.isAgg4
 z4:=Tryz.sizeOf4
 v4:=Tryz.zeroValue4
 t5:=Tryz.underlying5
 a5:=Tryz.isAgg5
 z5:=Tryz.sizeOf5
 v5:=Tryz.zeroValue5
 t9:=Tryz.underlying9
 a9:=Tryz.isAgg9
 z9:=Tryz.sizeOf9
 v9:=Tryz.zeroValue9
 t46:=Tryz.underlying151
 a46:=Tryz.isAgg151
 z46:=Tryz.sizeOf151
 v46:=Tryz.zeroValue151
 t51:=Tryz.underlying26
 a51:=Tryz.isAgg26
 z51:=Tryz.sizeOf26
 v51:=Tryz.zeroValue26
 t146:=Tryz.underlying304
 a146:=Tryz.isAgg304
 z146:=Tryz.sizeOf304
 v146:=Tryz.zeroValue304
 g1:=by kernel_rfl}
def Tryz.No:Go.Shelf.Ren:=⟨fun |156=>87|165=>174|166=>175|169=>176|240=>227|241=>228|276=>273|277=>274|n=>n,fun |31=>113|9=>9|3=>3|4=>4|0=>0|20=>20|72=>180|76=>184|70=>177|37=>178|75=>183|127=>232|164=>272|5=>5|80=>186|n=>n,fun |n=>n⟩
theorem Tryz.aNp:Go.Proofs.Lays.n156 Tryz.prog Tryz.No:={
 mixed:=by kernel_rfl
 f156:=Tryz.func87.trans (Al some (by kernel_rfl))
 f165:=Tryz.func174.trans (Al some (by kernel_rfl))
 f166:=Tryz.func175.trans (Al some (by kernel_rfl))
 f169:=Tryz.func176.trans (Al some (by kernel_rfl))
 f240:=Tryz.func227.trans (Al some (by kernel_rfl))
 f241:=Tryz.func228.trans (Al some (by kernel_rfl))
 f276:=Tryz.func273.trans (Al some (by kernel_rfl))
 f277:=Tryz.func274.trans (Al some (by kernel_rfl))
 t0:=Tryz.underlying0
 a0:=Tryz.isAgg0
 z0:=Tryz.sizeOf0
 v0:=Tryz.zeroValue0
 t3:=Tryz.underlying3
 a3:=Tryz.isAgg3
 z3:=Tryz.sizeOf3
 v3:=Tryz.zeroValue3
 t4:=Tryz.underlying4
 a4:=Tryz.isAgg4
 z4:=Tryz.sizeOf4
 v4:=Tryz.zeroValue4
 t9:=Tryz.underlying9
 a9:=Tryz.isAgg9
 z9:=Tryz.sizeOf9
 v9:=Tryz.zeroValue9
 t20:=Tryz.underlying20
 a20:=Tryz.isAgg20
 z20:=Tryz.sizeOf20
 v20:=Tryz.zeroValue20
 t31:=Tryz.underlying113
 a31:=Tryz.isAgg113
 z31:=Tryz.sizeOf113
 v31:=Tryz.zeroValue113
 t37:=Tryz.underlying178
 a37:=Tryz.isAgg178
 z37:=Tryz.sizeOf178
 v37:=Tryz.zeroValue178
 t70:=Tryz.underlying177
 a70:=Tryz.isAgg177
 z70:=Tryz.sizeOf177
 v70:=Tryz.zeroValue177
 t72:=Tryz.underlying180
 a72:=Tryz.isAgg180
 z72:=Tryz.sizeOf180
 v72:=Tryz.zeroValue180
 t75:=Tryz.underlying183
 a75:=Tryz.isAgg183
 z75:=Tryz.sizeOf183
 v75:=Tryz.zeroValue183
 t76:=Tryz.underlying184
 a76:=Tryz.isAgg184
 z76:=Tryz.sizeOf184
 v76:=Tryz.zeroValue184
 t127:=Tryz.underlying232
 a127:=Tryz.isAgg232
 z127:=Tryz.sizeOf232
 v127:=Tryz.zeroValue232
 t164:=Tryz.underlying272
 a164:=Tryz.isAgg272
 z164:=Tryz.sizeOf272
 v164:=Tryz.zeroValue272}
theorem Tryz.KB:Builder.Extra Tryz.prog Tryz.No:={
 sizeBuilder:=by kernel_rfl
 liesBuilder:=by kernel_rfl
 t5:=Tryz.underlying5
 a5:=Tryz.isAgg5
 z5:=Tryz.sizeOf5
 v5:=Tryz.zeroValue5
 infoByte:=by kernel_rfl
 cellsByte:=by kernel_rfl
 sizeByte:=by kernel_rfl
 neB5:=by decide}
end Go.Proofs
namespace Go.Proofs.YtogfcjbgeebfkaaGreatDoor
open Go Go.Av
attribute [local congr] aZ aQ aR aL bD aU aS aG bE
attribute [local irreducible] FC bS eE
def bDt(fn:Go.Func):Code:=fn.body.getD .skip
def RPw:{x // Zb Tryz.prog lY false (bDt Tryz.f125)=some x}:=by
 apply Subtype.mk
 conv=>lhs;cbv
theorem bRu:aBu Tryz.prog lY false 125 9 RPw.1.1 RPw.1.2.1 RPw.1.2.2:=⟨Tryz.f125,_,Tryz.func125,rfl,by kernel_rfl,RPw.2,by kernel_rfl,by kernel_rfl⟩
theorem zi(args:List AV)(I:args.length=2)(H:aB):IA Tryz.prog lY 125 args none H H:=by refine UU Rs bRu A0 ?_;show bS Tryz.prog lY 9 [⟨(some 2),.mO (.tmp 3),none⟩] (jF (dY args) 3 .pY) [] H (iJ (fun f ds H'=>FC Tryz.prog lY 9 RPw.1.2.2 f ds H' _) _);unfold RPw;dsimp only;have n1:DQ .ifc .pY=some true:=rfl;simp only[↓zP,zJ,seval,n1,Bool.or_true,Dx,Jh,Lc]
end Go.Proofs.YtogfcjbgeebfkaaGreatDoor
namespace Go.Proofs.YtogfcjbgeebfkaaGreatDoor
open Go Go.Av Go.aH
def plX(l:List aH.V)(q:aH.V×Int):List Nat:=aHk (iF (fun i=>l.getD i V0) l.length q.1 q.2) (tO q.1 (fun i=>l.getD i V0) (iF (fun i=>l.getD i V0) l.length q.1 q.2))
variable{l:List aH.V}
theorem Um(U:l.Pairwise jC){q:aH.V×Int}(D:q∈gG l):iX l q=plX l q:=aPd ((mI U).po q D)
variable{S:List (aH.V×Int)}
theorem Un(h:OH (fun i=>l.getD i V0) l.length S=true):gG l=S:=(rR l).uniq (AP h)
theorem Ys{L g:aH.V×Int->List Nat}(h:∀q∈S,L q=g q)(k:Nat):iK S L k=iK S g k:=by
 unfold iK
 grind
theorem Zh(l C:List aH.V){S:List (aH.V×Int)}{L g:aH.V×Int->List Nat}(h:∀q∈S,L q=g q):Pd l C S L=Pd l C S g:=by
 have f:jB C S L=jB C S g:=by unfold jB;rw[show iK S L=iK S g from funext (Ys h)]
 have M:jO l C S L=jO l C S g:=by simp[jO,f]
 simp[Pd,M,f]
def RL:List aH.V->Bool
 |[]=>true
 |v::r=>(r.all fun x=>ltV v x)&&RL r
theorem MA:∀{l:List aH.V},RL l=true->l.Pairwise jC
 |[],_=>.nil
 |q::r,h=>by simp only[RL,Ak,Bi] at h;exact Cj.2 ⟨fun x C=>oi.1 (h.1 x C),MA h.2⟩
theorem UZ(U:RL l=true)(h:OH (fun i=>l.getD i V0) l.length S=true):qC l=Pd l l S (plX l):=by have M:=MA U;unfold qC;rw[Qo M,Zh l l (S:=gG l) fun q D=>Um M D,Un h]
theorem aEe(U:RL l=true)(h:OH (fun i=>l.getD i V0) l.length S=true):wB l S (plX l) where
 fl:=AP h
 po q hq:=by
  have t:q∈gG l:=by rw[Un h];omega
  have :=(mI (MA U)).po q t
  rwa [Um (MA U) t] at this
def edX(l:List aH.V)(S:List (aH.V×Int)):List aH.V:=(JW S (plX l)).map fun x=>aH.sub (l.getD x.2.toNat V0) (l.getD x.1.toNat V0)
theorem Sm{L g:aH.V×Int->List Nat}:∀{S:List (aH.V×Int)},(∀q∈S,L q=g q)->JW S L=JW S g
 |[],_=>rfl
 |q::S,h=>by
  have K:=Sm (S:=S) fun x C=>h x (Ax _ C);unfold JW at K ⊢
  grind
theorem On(U:RL l=true)(h:OH (fun i=>l.getD i V0) l.length S=true){v:aH.V}:IsE l v↔v∈edX l S:=by
 have M:=MA U;have u:=mI M;have w:=Un h;have z:JW S (plX l)=JW (gG l) (iX l):=by rw[w];exact(Sm fun q D=>Um M (by grind)).symm
 unfold edX;rw[z,Be];constructor
 . rintro⟨q,D,a,b,O,Z,B,rfl⟩;have t:=(u.fl.mem q).2 D;exact⟨pN (a,b),(AY u).2 ⟨q,t,a,b,(u.po q t).lQ.2 ⟨Z,O⟩,B,rfl⟩,by rfl⟩
 rintro⟨x,C,rfl⟩;obtain⟨q,D,a,b,O,Z,rfl⟩:=(AY u).1 C;have B:=(u.po q D).lQ.1 O;exact⟨q,(u.fl.mem q).1 D,a,b,B.2,B.1,Z,by rfl⟩
theorem Ue{a b:List aH.V}{T:List (aH.V×Int)}(I:RL a=true)(X:RL b=true)(c:OH (fun i=>a.getD i V0) a.length S=true)(t:OH (fun i=>b.getD i V0) b.length T=true):
 rN a b=(lX S T (edX a S) (edX b T)).any (pP a b):=by
 have j:∀n,n∈lX S T (edX a S) (edX b T)↔IsD a b n:=fun n=>by
  have R:∀(l:List aH.V) (S:List (aH.V×Int)),OH (fun i=>l.getD i V0) l.length S=true->(n∈S.map (·.1)↔∃d,oR (fun i=>l.getD i V0) l.length n d):=fun l S h=>by
   have N:=AP h;rw[Be];constructor
   . rintro⟨q,D,rfl⟩;exact⟨q.2,(N.mem q).1 D⟩
   rintro⟨d,hd⟩;exact⟨(n,d),(N.mem (n,d)).2 hd,rfl⟩
  have Y:n∈MZ (edX a S) (edX b T)↔∃u w,IsE a u/\IsE b w/\n=aH.bC u w/\n≠V0:=by
   simp only[MZ,Ec,Ix];constructor
   . rintro⟨u,B,w,L,h⟩;split at h
     . cases h
     rename_i e;obtain rfl:=Aa h;exact⟨u,w,(On I c).2 B,(On X t).2 L,rfl,e⟩
   rintro⟨u,w,B,L,rfl,A⟩;exact⟨u,(On I c).1 B,w,(On X t).1 L,by rw[if_neg A]⟩
  unfold lX IsD;rw[Cg,Ar,Ar,R a S c,R b T t,Y,or_assoc]
 rw[Eh,Cz,qM];exact exists_congr fun n=>and_congr_left' (j n).symm
def mL(o:Int)(p:Int):List aH.V:=[⟨o,p,p⟩,⟨o,p,p+2⟩,⟨o,p+2,p⟩,⟨o,p+2,p+2⟩,⟨o+2,p,p⟩,⟨o+2,p,p+2⟩,⟨o+2,p+2,p⟩,⟨o+2,p+2,p+2⟩]
def Wt(o:Int)(p:Int):List (aH.V×Int):=[(⟨-1,0,0⟩,-o),(⟨0,-1,0⟩,-p),(⟨0,0,-1⟩,-p),(⟨0,0,1⟩,p+2),(⟨0,1,0⟩,p+2),(⟨1,0,0⟩,o+2)]
theorem EU:OH (fun i=>(mL 0 0).getD i V0) (mL 0 0).length (Wt 0 0)=true:=by rfl
theorem ko:OH (fun i=>(mL 1 1).getD i V0) (mL 1 1).length (Wt 1 1)=true:=by rfl
theorem kq:OH (fun i=>(mL 2 0).getD i V0) (mL 2 0).length (Wt 2 0)=true:=by rfl
theorem EV:RL (mL 0 0)=true:=by rfl
theorem kp:RL (mL 1 1)=true:=by rfl
theorem kr:RL (mL 2 0)=true:=by rfl
theorem uB:qC (mL 0 0)=0:=by rw[UZ EV EU];rfl
theorem vq:qC (mL 1 1)=0:=by rw[UZ kp ko];rfl
theorem vr:qC (mL 2 0)=0:=by rw[UZ kr kq];rfl
theorem Zu:rN (mL 0 0) (mL 0 0)=false:=by rw[Ue EV EV EU EU];rfl
theorem Zv:rN (mL 0 0) (mL 1 1)=false:=by rw[Ue EV kp EU ko];rfl
theorem Zw:rN (mL 0 0) (mL 2 0)=true:=by rw[Ue EV kr EU kq];rfl
def iR(o p:Int):AV:=.bK 0 3 (bU (mL o p))
theorem vu(o p:Int):rI (iR o p,mL o p):=.inr rfl
theorem bMk(H:aB):Sg 31 [.agg [iR 0 0],.agg [iR 1 1]] H (.ret (.bool false)) H:=by have :=Uf (ta:=0) (tb:=0) rfl rfl uB vq H;rw[Zv] at this;exact this
theorem bMl(H:aB):Sg 31 [.agg [iR 0 0],.agg [iR 2 0]] H (.ret (.bool true)) H:=by have :=Uf (ta:=0) (tb:=0) rfl rfl uB vr H;rw[Zw] at this;exact this
theorem aOf(H:aB):Sg 182 [.agg [iR 0 0]] H (.ret (.bK (H.next+2) 5 ((Wt 0 0).map (cX (plX (mL 0 0)))))) (H.alloc .tok):=by have A:∀v∈mL 0 0,bT (2^18) v:=(rM uB).2.2.2.2.2.2;exact EP (tag:=0) rfl A (Ad _) A1 (aEe EV EU) A1 H
end Go.Proofs.YtogfcjbgeebfkaaGreatDoor
namespace Go.Proofs.YtogfcjbgeebfkaaGreatDoor
open Go Go.Av Go.iW Go.aH
def cR(n d:Int):List AV:=cI n++cI d
def bCn:List AV->Option AV
 |[.agg c]=>match Zz (c.take 18),Zz (c.drop 18) with
  |some n,some d=>some (.bool (Yu n d).isSome)
  |_,_=>none
 |_=>none
variable{args:List AV}{v:AV}
theorem aOx(h:bCn args=some v)(H:aB):Sg 107 args H (.ret v) H:=by
 unfold bCn at h;split at h
 . rename_i c;split at h
   . rename_i n d A hd;cases h;exact lS ⟨_,_,n,d,(Jz 18 c).symm,KN A,KN hd,rfl⟩ H
   grind
 grind
def bCp:List (FuncId×(List AV->Option AV)):=[
 (51,aHi),
 (57,SF fun x y=>.agg (cO (oI x y))),
 (158,SF fun x y=>.agg (cO (oI x (wH y)))),
 (114,SF fun x y=>.agg (cO (oD x y))),
 (165,ze fun x=>.agg (cO (wH x))),
 (199,ze fun x=>.agg (cO (aYl x))),
 (110,ze fun x=>.int .i64 (iI x)),
 (95,SF fun x y=>.int .i64 (mH x y)),
 (156,ze fun x=>.iV [.int .i64 (fU x).1,.bool (fU x).2]),
 (108,SF fun x y=>.agg (cO (rO x y).1)),
 (109,SF fun x y=>.agg (cO (rO x y).2)),
 (113,SF fun x y=>.agg (cO (aEo x y))),
 (106,SF fun x y=>.agg (gL (FK x y))),
 (107,bCn)]
theorem aOz:∀e∈bCp,∀args v,e.2 args=some v->∀H,Sg e.1 args H (.ret v) H:=by
 simp only[bCp,List.forall_mem_cons]
 exact⟨fun _ _ h H=>aHj h H,fun _ _ h H=>wU (fun _ _ _ _ I X H=>xB I X H) h H,fun _ _ h H=>wU (fun _ _ _ _ I X H=>ZX I X H) h H,fun _ _ h H=>wU (fun _ _ _ _ I X H=>xD I X H) h H,
  fun _ _ h H=>Ot (fun _ _ I H=>PM I H) h H,fun _ _ h H=>Ot (fun _ _ I H=>aBh I H) h H,fun _ _ h H=>Ot (fun _ _ I H=>tR I H) h H,fun _ _ h H=>wU (fun _ _ _ _ I X H=>HR I X H) h H,
  fun _ _ h H=>Ot (fun _ _ I H=>yJ I H) h H,fun _ _ h H=>wU (fun _ _ _ _ I X H=>HV I X H) h H,fun _ _ h H=>wU (fun _ _ _ _ I X H=>ZV I X H) h H,fun _ _ h H=>wU (fun _ _ _ _ I X H=>UO I X H) h H,
  fun _ _ h H=>wU (fun _ _ _ _ I X H=>vM I X H) h H,fun _ _ h H=>aOx h H,fun e z=>absurd z Cn⟩
def aPa(f:FuncId)(args:List AV):Option AV:=
 match bCp.find? fun e=>Nat.beq f e.1 with
 |some e=>e.2 args
 |none=>none
theorem ph{f:FuncId}(h:aPa f args=some v)(H:aB):Sg f args H (.ret v) H:=by
 unfold aPa at h;split at h
 . rename_i e z;have N:=Jw z;obtain rfl:=Ch N;exact aOz e (Jc z) _ _ h H
 grind
def aFs:List AV->Bool
 |[.agg c]=>sV (qD c) [iR 0 0]
 |_=>false
def aRc:List (List AV):=[
 [.int .i64 (-1),.int .i64 0,.int .i64 0,.int .i64 0,.bK 0 1 [[.int .i64 0],[.int .i64 1],[.int .i64 3],[.int .i64 2]]],
 [.int .i64 0,.int .i64 (-1),.int .i64 0,.int .i64 0,.bK 0 1 [[.int .i64 0],[.int .i64 4],[.int .i64 5],[.int .i64 1]]],
 [.int .i64 0,.int .i64 0,.int .i64 (-1),.int .i64 0,.bK 0 1 [[.int .i64 0],[.int .i64 2],[.int .i64 6],[.int .i64 4]]],
 [.int .i64 0,.int .i64 0,.int .i64 1,.int .i64 2,.bK 0 1 [[.int .i64 1],[.int .i64 5],[.int .i64 7],[.int .i64 3]]],
 [.int .i64 0,.int .i64 1,.int .i64 0,.int .i64 2,.bK 0 1 [[.int .i64 2],[.int .i64 3],[.int .i64 7],[.int .i64 6]]],
 [.int .i64 1,.int .i64 0,.int .i64 0,.int .i64 2,.bK 0 1 [[.int .i64 4],[.int .i64 6],[.int .i64 7],[.int .i64 5]]]]
theorem aDq:(Wt 0 0).map (cX (plX (mL 0 0)))=aRc:=by rfl
def bMq(f:FuncId)(args:List AV)(H:aB):Option (Out×aB):=
 match aPa f args with
 |some v=>some (.ret v,H)
 |none=>match Nat.beq f 182 with
 |true=>match aFs args with
  |true=>some (.ret (.bK (H.next+2) 5 aRc),H.alloc .tok)
  |false=>none
 |false=>none
theorem gD:PO Tryz.prog gv bMq:=by
 intro f args H out H' h;unfold bMq at h;split at h
 . rename_i v J;cases h;exact ph J H
 split at h
 . rename_i N;obtain rfl:=Ch N;split at h
   . rename_i R;cases h
     obtain⟨c,rfl,R⟩:∃c,args=[.agg c]/\sV (qD c) [iR 0 0]=true:=by
      unfold aFs at R
      grind
     refine Sound.wu ?_
     have e:qD [AV.agg c]=[.agg [iR 0 0]]:=by grind[qD,wu,sW]
     rw[e,<-aDq];exact aOf H
   grind
 grind
end Go.Proofs.YtogfcjbgeebfkaaGreatDoor
namespace Go.Proofs.YtogfcjbgeebfkaaGreatDoor
open Go Go.Av Go.iW
def bSn:FT:=.node 210 (.node 90 (.node 29 (.node 25 (.leaf 9 W9T.1) (.node 26 (.leaf 25 aXe.1) (.leaf 26 aXj.1))) (.node 50 (.leaf 29 aYa.1) (.node 88 (.leaf 50 aYi.1) (.leaf 88 aYj.1)))) (.node 128 (.node 126 (.leaf 90 aYk.1) (.node 127 (.leaf 126 aCd.1) (.leaf 127 aCe.1))) (.node 177 (.node 133 (.leaf 128 aCf.1) (.leaf 133 aCg.1)) (.node 209 (.leaf 177 aCh.1) (.leaf 209 aCj.1))))) (.node 307 (.node 230 (.node 212 (.leaf 210 aCk.1) (.node 229 (.leaf 212 aCl.1) (.leaf 229 aCm.1))) (.node 267 (.node 232 (.leaf 230 aCn.1) (.leaf 232 aCo.1)) (.node 275 (.leaf 267 aCp.1) (.leaf 275 aCq.1)))) (.node 333 (.node 321 (.leaf 307 aCs.1) (.node 332 (.leaf 321 aCt.1) (.leaf 332 aCu.1))) (.node 354 (.node 334 (.leaf 333 aCv.1) (.leaf 334 aCw.1)) (.node 355 (.leaf 354 aCx.1) (.leaf 355 aCy.1)))))
theorem wY:bSn.All fun f F=>∃N,gX Tryz.prog lY N f F:=⟨⟨⟨⟨⟨_,bRt⟩,⟨⟨_,bJn⟩,⟨_,bJs⟩⟩⟩,⟨⟨_,bKj⟩,⟨⟨_,bKw⟩,⟨_,bLf⟩⟩⟩⟩,⟨⟨⟨_,bLg⟩,⟨⟨_,bAh⟩,⟨_,bAi⟩⟩⟩,⟨⟨⟨_,bAj⟩,⟨_,bAk⟩⟩,⟨⟨_,bAl⟩,⟨_,bAm⟩⟩⟩⟩⟩,⟨⟨⟨⟨_,bAn⟩,⟨⟨_,bAo⟩,⟨_,bAp⟩⟩⟩,⟨⟨⟨_,bAq⟩,⟨_,bAr⟩⟩,⟨⟨_,bAs⟩,⟨_,bAt⟩⟩⟩⟩,⟨⟨⟨_,bAu⟩,⟨⟨_,bAv⟩,⟨_,bAw⟩⟩⟩,⟨⟨⟨_,bAx⟩,⟨_,bAy⟩⟩,⟨⟨_,bAz⟩,⟨_,bBa⟩⟩⟩⟩⟩⟩
theorem bCe:CI Tryz.prog 265:=⟨_,Tryz.func265,by rfl,by rfl⟩
theorem bCf:CI Tryz.prog 266:=⟨_,Tryz.func266,by rfl,by rfl⟩
theorem bMn:CI Tryz.prog 87:=⟨_,Tryz.func87,by rfl,by rfl⟩
def aMh:List (List AV)->Option (List (List UInt8))
 |[]=>some []
 |[.str x]::r=>match aMh r with
  |some l=>some (x::l)
  |none=>none
 |_=>none
theorem ku:∀{els:List (List AV)} {l:List (List UInt8)},aMh els=some l->els=Yl l
 |[],l,h=>by cases h;rfl
 |[.str x]::r,l,h=>by
  simp only[aMh] at h;split at h
  . rename_i l' L;cases h;rw[ku L];rfl
  grind
def bMp(f:FuncId)(args:List AV)(H:aB):Option (Out×aB):=
 match aPa f args with
 |some v=>match cP args&&v.free with
  |true=>some (.ret v,H)
  |false=>none
 |none=>match Nat.beq f 265 with
 |true=>match args with
  |[.str s,.str [c]]=>some (.ret (.int .i64 (Lib.countByte s c)),H)
  |_=>none
 |false=>match Nat.beq f 266 with
 |true=>match args with
  |[.str s,.str [c]]=>some (.ret (.int .i64 (Lib.indexByte s c)),H)
  |_=>none
 |false=>match Nat.beq f 87 with
 |true=>match args with
  |[.bK _ 1 els,.str sep]=>match aMh els with
   |some xs=>match Nat.blt 0 xs.length&&Nat.ble xs.length 1000&&Nat.ble (Lib.join xs sep).length 1000000 with
    |true=>some (.ret (.str (Lib.join xs sep)),H)
    |false=>none
   |none=>none
  |_=>none
 |false=>none
theorem wV:PO Tryz.prog lY bMp:=by
 intro f args H out H' h;unfold bMp at h;split at h
 . rename_i v J;split at h
   . rename_i N;cases h;rw[Ak] at N;exact toT N.1 N.2 (ph J) H
   grind
 split at h
 . rename_i N;obtain rfl:=Ch N;split at h
   . cases h;rename_i s c _;refine PT bCe (fun w=>?_) H;exact Any.strings_Count_one Tryz.aNn ⟨s.toArray⟩ c w
   grind
 split at h
 . rename_i N;obtain rfl:=Ch N;split at h
   . cases h;rename_i s c _;refine PT bCf (fun w=>?_) H;exact Any.strings_Index_one Tryz.aNo ⟨s.toArray⟩ c w
   grind
 split at h
 . rename_i N;obtain rfl:=Ch N;split at h
   . rename_i tag els A _;split at h
     . rename_i xs C;split at h
       . rename_i R;cases h;rw[ku C];simp only[Ak,Ib,Nat.ble_eq] at R;refine ZW bMn moT (fun e=>by grind) A0 A0 (fun bk o c ys w O Z B h4 M=>?_) tag H;exact Any.strings_Join Tryz.aNp Tryz.KB bk o c ys ⟨A.toArray⟩ w O Z B h4 M
       grind
     grind
   grind
 grind
end Go.Proofs.YtogfcjbgeebfkaaGreatDoor
namespace Go.Proofs.YtogfcjbgeebfkaaGreatDoor
open Go Go.Av Go.aH
def bSa:FT:=.node 116 (.node 58 (.node 37 (.node 17 (.node 13 (.leaf 10 W10.1) (.node 15 (.leaf 13 W13.1) (.leaf 15 W15.1))) (.node 20 (.leaf 17 W17.1) (.node 22 (.leaf 20 W20.1) (.leaf 22 W22.1)))) (.node 44 (.node 40 (.leaf 37 W37.1) (.node 41 (.leaf 40 W40.1) (.leaf 41 W41.1))) (.node 49 (.leaf 44 W44.1) (.node 52 (.leaf 49 W49.1) (.leaf 52 W52.1))))) (.node 73 (.node 64 (.node 62 (.leaf 58 W58.1) (.node 63 (.leaf 62 W62.1) (.leaf 63 W63.1))) (.node 65 (.leaf 64 W64.1) (.node 66 (.leaf 65 W65.1) (.leaf 66 W66.1)))) (.node 80 (.node 74 (.leaf 73 W73.1) (.node 78 (.leaf 74 W74.1) (.leaf 78 W78.1))) (.node 81 (.leaf 80 W80.1) (.node 115 (.leaf 81 W81.1) (.leaf 115 aKk.1)))))) (.node 200 (.node 147 (.node 130 (.node 117 (.leaf 116 aKl.1) (.node 129 (.leaf 117 aKm.1) (.leaf 129 aKn.1))) (.node 138 (.leaf 130 aUg.1) (.node 139 (.leaf 138 aKo.1) (.leaf 139 aKp.1)))) (.node 164 (.node 148 (.leaf 147 aKq.1) (.node 157 (.leaf 148 aUt.1) (.leaf 157 aUv.1))) (.node 167 (.leaf 164 aKr.1) (.node 185 (.leaf 167 aKs.1) (.leaf 185 aKv.1))))) (.node 243 (.node 203 (.node 201 (.leaf 200 aKy.1) (.node 202 (.leaf 201 aKz.1) (.leaf 202 aLa.1))) (.node 211 (.leaf 203 aLb.1) (.node 214 (.leaf 211 aVw.1) (.leaf 214 aLc.1)))) (.node 260 (.node 244 (.leaf 243 aLd.1) (.node 259 (.leaf 244 aLe.1) (.leaf 259 aLg.1))) (.node 261 (.leaf 260 aLh.1) (.node 294 (.leaf 261 aLi.1) (.leaf 294 aLl.1))))))
theorem gS:bSa.All fun f F=>∃N,gX Tryz.prog gv N f F:=⟨⟨⟨⟨⟨⟨_,bQk⟩,⟨⟨_,bGn⟩,⟨_,bQl⟩⟩⟩,⟨⟨_,bQm⟩,⟨⟨_,bHz⟩,⟨_,bQn⟩⟩⟩⟩,⟨⟨⟨_,bQs⟩,⟨⟨_,bKs⟩,⟨_,bQt⟩⟩⟩,⟨⟨_,bKt⟩,⟨⟨_,bQw⟩,⟨_,bQy⟩⟩⟩⟩⟩,⟨⟨⟨⟨_,bKy⟩,⟨⟨_,bRf⟩,⟨_,bRg⟩⟩⟩,⟨⟨_,bKz⟩,⟨⟨_,bRh⟩,⟨_,bLa⟩⟩⟩⟩,⟨⟨⟨_,bLb⟩,⟨⟨_,bRj⟩,⟨_,bLc⟩⟩⟩,⟨⟨_,bLd⟩,⟨⟨_,bLe⟩,⟨_,aRw⟩⟩⟩⟩⟩⟩,⟨⟨⟨⟨⟨_,aRx⟩,⟨⟨_,aRy⟩,⟨_,aRz⟩⟩⟩,⟨⟨_,bGo⟩,⟨⟨_,aSa⟩,⟨_,aSb⟩⟩⟩⟩,⟨⟨⟨_,aSc⟩,⟨⟨_,bHb⟩,⟨_,bHd⟩⟩⟩,⟨⟨_,aSd⟩,⟨⟨_,aSe⟩,⟨_,aSh⟩⟩⟩⟩⟩,⟨⟨⟨⟨_,aSk⟩,⟨⟨_,aSl⟩,⟨_,aSm⟩⟩⟩,⟨⟨_,aSn⟩,⟨⟨_,bIf⟩,⟨_,aSo⟩⟩⟩⟩,⟨⟨⟨_,aSp⟩,⟨⟨_,aSq⟩,⟨_,aSs⟩⟩⟩,⟨⟨_,aSt⟩,⟨⟨_,aSu⟩,⟨_,aSx⟩⟩⟩⟩⟩⟩⟩
def aDp:List AV:=[.agg [iR 0 0]]
def NV:AV:=.agg (iQ [98] (.bK 0 1 [[iR 0 0]]) 8 10 500 700)
def aRa:AV:=.agg (iQ [98] (.bK 0 1 [[iR 0 0],[iR 0 0]]) 8 10 500 700)
def bNi:AV:=.agg (cR 1 1++cR 1 1++cR 1 1)
def bMd(a b:Int×Int):AV:=.agg [.int .i64 3,.int .i64 3,.bK 0 36 [cR a.1 a.2,cR b.1 b.2,cR b.1 b.2,cR b.1 b.2,cR a.1 a.2,cR b.1 b.2,cR b.1 b.2,cR b.1 b.2,cR a.1 a.2]]
def i3(a b c:Int):AV:=.agg [.int .i64 a,.int .i64 b,.int .i64 c]
def kA:List Fact:=[
 (36,[NV],.int .i64 0),(36,[aRa],.int .i64 150),(101,[.agg [iR 0 0]],.int .i64 0),(31,[.agg [iR 0 0],.agg [iR 0 0]],.bool false),
 (31,[.agg [iR 0 0],.agg [iR 1 1]],.bool false),(31,[.agg [iR 0 0],.agg [iR 2 0]],.bool true)]
theorem bMm(H:aB):Sg 101 [.agg [iR 0 0]] H (.ret (.int .i64 0)) H:=by have :=SB (p:=(iR 0 0,mL 0 0)) (vu 0 0) A1 H;rw[show qC ((iR 0 0,mL 0 0):AV×List V).2=0 from uB] at this;exact this
theorem bMj(H:aB):Sg 31 [.agg [iR 0 0],.agg [iR 0 0]] H (.ret (.bool false)) H:=by have :=Uf (ta:=0) (tb:=0) rfl rfl uB uB H;rw[Zu] at this;exact this
def bNp:FT:=.node 53 (.leaf 36 W36.1) (.node 102 (.leaf 53 W53.1) (.leaf 102 aTp.1))
theorem kl:bNp.All fun f F=>∃N,gX Tryz.prog gv N f F:=⟨⟨_,bQr⟩,⟨⟨_,bQz⟩,⟨_,bFw⟩⟩⟩
def k00:List Fact:=[(101,[.agg [iR 0 0]],.int .i64 0),(31,[.agg [iR 0 0],.agg [iR 0 0]],.bool false),
 (31,[.agg [iR 0 0],.agg [iR 1 1]],.bool false),(31,[.agg [iR 0 0],.agg [iR 2 0]],.bool true)]
theorem bLu:tQ Tryz.prog gv k00:=(((tQ.nil.cons bMl).cons bMk).cons bMj).cons bMm
theorem bLv:tQ Tryz.prog gv ((36,[aRa],.int .i64 150)::k00):=bLu.CF fit dZ kl gD dN 2 (by kernel_rfl)
theorem bLt:tQ Tryz.prog gv kA:=bLv.CF fit dZ kl gD dN 2 (by kernel_rfl)
def k1:Fact:=(58,aDp,.agg (cI 48))
theorem bLk:tQ Tryz.prog gv (k1::kA):=bLt.CF fit dZ gS gD dN 0 (by kernel_rfl)
def k2:Fact:=(65,aDp,bNi)
theorem bLl:tQ Tryz.prog gv (k2::k1::kA):=bLk.CF fit dZ gS gD dN 0 (by kernel_rfl)
def k3:Fact:=(78,aDp,bMd (64,3) (-8,1))
theorem bLm:tQ Tryz.prog gv (k3::k2::k1::kA):=bLl.CF fit dZ gS gD dN 1 (by kernel_rfl)
def kB:List Fact:=k3::k2::k1::kA
def k4:Fact:=(13,[NV],.agg (cI 48))
theorem bLn:tQ Tryz.prog gv (k4::kB):=bLm.CF fit dZ gS gD dN 0 (by kernel_rfl)
def k5:Fact:=(15,[NV],bNi)
theorem bLo:tQ Tryz.prog gv (k5::k4::kB):=bLn.CF fit dZ gS gD dN 0 (by kernel_rfl)
def k6:Fact:=(17,[NV],i3 1 1 1)
theorem bLp:tQ Tryz.prog gv (k6::k5::k4::kB):=bLo.CF fit dZ gS gD dN 0 (by kernel_rfl)
def k7:Fact:=(20,[NV,.agg (cR 8 1)],bMd (64,3) (-8,1))
theorem bLq:tQ Tryz.prog gv (k7::k6::k5::k4::kB):=bLp.CF fit dZ gS gD dN 1 (by kernel_rfl)
def kC:List Fact:=k7::k6::k5::k4::kB
def k8:Fact:=(10,[NV],.iV [i3 0 0 0,i3 2 2 2])
theorem bLr:tQ Tryz.prog gv (k8::kC):=bLq.CF fit dZ gS gD dN 0 (by kernel_rfl)
def k9:Fact:=(22,[NV],.int .i64 12)
theorem bLs:tQ Tryz.prog gv (k9::k8::kC):=bLr.CF fit dZ gS gD dN 0 (by kernel_rfl)
def kO(n:Int):Fact:=(40,[.int .i64 n],.agg (cR n 1))
theorem bBk:tQ Tryz.prog gv (kO 1::k9::k8::kC):=bLs.CF fit dZ gS gD dN 0 (by kernel_rfl)
theorem bBl:tQ Tryz.prog gv (kO 8::kO 1::k9::k8::kC):=bBk.CF fit dZ gS gD dN 0 (by kernel_rfl)
theorem bBm:tQ Tryz.prog gv (kO (-8)::kO 8::kO 1::k9::k8::kC):=bBl.CF fit dZ gS gD dN 0 (by kernel_rfl)
def kD:List Fact:=kO (-8)::kO 8::kO 1::k9::k8::kC
def kF:Fact:=(41,[.int .i64 64,.int .i64 3],.agg (cR 64 3))
theorem bLw:tQ Tryz.prog gv (kF::kD):=bBm.CF fit dZ gS gD dN 0 (by kernel_rfl)
def kU(o p:Int):Fact:=(49,[i3 o p p,.int .i64 2],.agg [iR o p])
theorem bBt:tQ Tryz.prog gv (kU 0 0::kF::kD):=bLw.CF fit dZ gS gD dN 1 (by kernel_rfl)
theorem bBu:tQ Tryz.prog gv (kU 1 1::kU 0 0::kF::kD):=bBt.CF fit dZ gS gD dN 1 (by kernel_rfl)
theorem bBv:tQ Tryz.prog gv (kU 2 0::kU 1 1::kU 0 0::kF::kD):=bBu.CF fit dZ gS gD dN 1 (by kernel_rfl)
def kE:List Fact:=kU 2 0::kU 1 1::kU 0 0::kF::kD
def kP(s:List UInt8)(n:Int):Fact:=(211,[.str s],.iV [.agg (cI n),.int .i64 0])
theorem bBn:tQ Tryz.prog gv (kP [48] 0::kE):=bBv.CF fit dZ gS gD dN 0 (by kernel_rfl)
theorem bBo:tQ Tryz.prog gv (kP [50] 2::kP [48] 0::kE):=bBn.CF fit dZ gS gD dN 0 (by kernel_rfl)
theorem bBp:tQ Tryz.prog gv (kP [56] 8::kP [50] 2::kP [48] 0::kE):=bBo.CF fit dZ gS gD dN 0 (by kernel_rfl)
def kG:List Fact:=kP [56] 8::kP [50] 2::kP [48] 0::kE
theorem bBq:tQ Tryz.prog gv (kP [49,48] 10::kG):=bBp.CF fit dZ gS gD dN 0 (by kernel_rfl)
theorem bBr:tQ Tryz.prog gv (kP [53,48,48] 500::kP [49,48] 10::kG):=bBq.CF fit dZ gS gD dN 0 (by kernel_rfl)
theorem bBs:tQ Tryz.prog gv (kP [55,48,48] 700::kP [53,48,48] 500::kP [49,48] 10::kG):=bBr.CF fit dZ gS gD dN 0 (by kernel_rfl)
def kH:List Fact:=kP [55,48,48] 700::kP [53,48,48] 500::kP [49,48] 10::kG
theorem bLx:tQ Tryz.prog gv kH:=bBs
theorem bBd:tQ Tryz.prog lY kH:=bDo bLx (by kernel_rfl)
def kN(n:Int)(s:List UInt8):Fact:=(88,[.int .i64 n],.str s)
theorem bBe:tQ Tryz.prog lY (kN 0 [48]::kH):=bBd.CF Rs xP wY wV dN 0 (by kernel_rfl)
theorem bBf:tQ Tryz.prog lY (kN 2 [50]::kN 0 [48]::kH):=bBe.CF Rs xP wY wV dN 0 (by kernel_rfl)
theorem bBg:tQ Tryz.prog lY (kN 8 [56]::kN 2 [50]::kN 0 [48]::kH):=bBf.CF Rs xP wY wV dN 0 (by kernel_rfl)
def kL:List Fact:=kN 8 [56]::kN 2 [50]::kN 0 [48]::kH
theorem bBh:tQ Tryz.prog lY (kN 10 [49,48]::kL):=bBg.CF Rs xP wY wV dN 0 (by kernel_rfl)
theorem bBi:tQ Tryz.prog lY (kN 500 [53,48,48]::kN 10 [49,48]::kL):=bBh.CF Rs xP wY wV dN 0 (by kernel_rfl)
theorem bBj:tQ Tryz.prog lY (kN 700 [55,48,48]::kN 500 [53,48,48]::kN 10 [49,48]::kL):=bBi.CF Rs xP wY wV dN 0 (by kernel_rfl)
def kM:List Fact:=kN 700 [55,48,48]::kN 500 [53,48,48]::kN 10 [49,48]::kL
def txt:List UInt8:=[98,111,100,121,32,98,32,109,97,115,115,32,56,32,49,48,32,114,111,117,103,104,32,53,48,48,32,55,48,48,10,112,97,114,116,32,48,32,48,32,48,32,48,32,48,32,50,32,48,32,50,32,48,32,48,32,50,32,50,32,50,32,48,32,48,32,50,32,48,32,50,32,50,32,50,32,48,32,50,32,50,32,50,10]
def kX:Fact:=(26,[NV],.str txt)
theorem bLz:tQ Tryz.prog lY (kX::kM):=bBj.CF Rs xP wY wV dN 0 (by kernel_rfl)
def bMi(f:FuncId)(k:Nat):Bool:=Nat.beq f 125&&Nat.beq k 2
theorem aOe:PN Tryz.prog lY bMi:=fun f k h args H I=>by simp only[bMi,Ak] at h;obtain rfl:=Ch h.1;obtain rfl:=Ch h.2;exact zi args I H
theorem bLy:tQ Tryz.prog lY ((9,[],.bool true)::kX::kM):=bLz.CF Rs xP wY wV aOe 0 (by kernel_rfl)
theorem aAm(H:aB):St 9 [] H (.ret (.bool true)) H:=bLy _ Ay H
end Go.Proofs.YtogfcjbgeebfkaaGreatDoor
namespace Go.Proofs.YtogfcjbgeebfkaaGreatDoor
open Go Go.Av Go.aH Go.iW
attribute [local congr] aZ aQ aR aL bD aU aS aG bE
attribute [local irreducible] FC bS eE
theorem aEf{v:aH.V}:OK v=false↔bT (2^12) v:=by unfold OK bT;simp only[Ii,Cd];omega
variable{ls:List (List aH.V)}
theorem aPx(h:HJ ls=0):(∀l∈ls,nF l=0)/\Ns ls=false:=by
 unfold HJ at h;split at h
 . rename_i l N;have :=Jw N;simp only[Ct,Cd] at this;exact absurd h this
 rename_i N;refine⟨fun l U=>?_,?_⟩
 . have :=Hl.1 N l U;simpa using this
 split at h
 . cases h
 rename_i S;simpa using S
variable{name:List UInt8}
theorem aYq{w R B r1:Int}(h:CU name ls w R B r1=0):Bp ls/\Ns ls=false:=by
 unfold CU at h;split at h
 . cases h
 split at h
 . cases h
 rename_i A;split at h
 . cases h
 obtain⟨O,Z⟩:=aPx h;refine⟨⟨fun e=>by rw[e] at A;simp at A,by omega,fun l U=>?_⟩,Z⟩;obtain⟨a,b⟩:=qc (O l U);exact⟨a,fun v J=>aEf.1 (b v J)⟩
theorem bDr{pv:AV}{S:List (AV×List aH.V)}(I:AG pv S)(X:∀p∈S,rI p)(h:Bp (S.map (·.2)))(w R B r1:Int):iQ name pv w R B r1=bd name (S.map (·.2)) w R B r1:=by
 rcases I with ⟨_,Z⟩|h1
 . exact absurd (by rw[Z];rfl) h.1
 unfold bd;rw[h1];congr 2;unfold ML pE;rw[Ea];refine Dk fun p m=>?_
 rcases X p m with ⟨_,Z⟩|h1
 . have :=(rM (h.2.2 p.2 (Be.2 ⟨p,m,rfl⟩)).1).2.2.2.2.2.1;exact absurd Z this
 rw[h1];rfl
theorem Bp.sz(h:Bp ls):∀l∈ls,l≠[]/\l.length<=64:=fun l U=>by obtain⟨_,_,_,_,a,b,_⟩:=rM (h.2.2 l U).1;exact⟨b,a⟩
theorem aY.at3{H:aB}(h:aY H):oJ H 3=true:=by simp only[oJ,Cv,h _ (Ad _),h (H.next+1) A0,h (H.next+2) A0];rfl
theorem aFw(BS:name.length<2^63){pv:AV}{S:List (AV×List aH.V)}(I:AG pv S)(X:∀p∈S,rI p)(vY:S.length<2^63){mass:Int}(xu:0<=mass)(b5:mass<256)(w R B r1:Int)(H:aB):
 St 6 [.agg (iQ name pv w R B r1),.int .u8 mass] H (.ret (.bool true)) H:=by
 have uD:cP [AV.agg (iQ name pv w R B r1)]=true:=by simp only[sf,iQ,I.free X]
 refine IC Rs xP bRi (Ab rfl) (by simp only[sf,iQ,I.free X]) Zad ?_ H;unfold W6T;dsimp only;have aO:=aAm;have GH:=fun H=>toT uD rfl (fun H=>YS BS I X vY w R B r1 H) H;have G:(iQ name pv w R B r1).length=6:=rfl;refine bP ?_;refine Ty ?_;refine fQ ?_
 cases J:(Pr (S.map (·.2))&&(CU name (S.map (·.2)) w R B r1==0)) with
 |false=>rw[J] at GH;have :=oL G;refine Wz ?_;refine Rx ?_;rfl
 |true=>
 rw[J] at GH;rw[Ak,Dr] at J;obtain⟨r,hO⟩:=aYq J.2;have ay:=bDr (name:=name) I X r w R B r1;generalize S.map (·.2)=ls at *;rw[ay] at GH G ⊢;clear uD I X vY J ay;have fb:∀v:List AV,cP v=true->cP [AV.agg (bd name ls w R B r1),.agg v]=true:=fun v J=>by simp only[sf,Oe,J]
 have OP:∀H,St 35 [.agg (bd name ls w R B r1),.agg [.int .i64 0,.int .i64 0,.int .i64 0]] H (.ret (.bool (Xt (⟨0,0,0⟩::ls.flatten)))) H:=
  fun H=>toT (fb _ rfl) rfl (bBy r.2.1 (fun l U=>r.sz l U) ⟨0,0,0⟩ w R B r1) H
 have :=oL G;refine Wz ?_
 cases U:Xt (⟨0,0,0⟩::ls.flatten) with
 |false=>refine Wz ?_;refine Rx ?_;rfl
 |true=>
 clear OP U GH hO;refine Ty ?_;refine bQ ?_;obtain⟨M,hM⟩:∃M:Int,M=1+mass:=⟨_,rfl⟩;have w1:IntKind.i64.wrap mass=mass:=wrap_i64 A0 A0;have w2:IntKind.i64.wrap (1+mass)=M:=by rw[wrap_i64 A0 A0,hM]
 have ab:0<M:=by omega
 have a7:M.natAbs<=2^9:=by omega
 have o1:∀H,St 40 [.int .i64 M] H (.ret (.agg (gL (some (M:Rat))))) H:=toT rfl (by simp only[sf];exact eW (some _)) (fx (z:=M) A0 A0);have eM:mT (some (M:Rat)) (some (M:Rat))=some ((M+M:Int):Rat):=by rw[CL (.int a7) (.int a7) A1 A1 A1,Rat.intCast_add]
 have ar:lA (gL (some (M:Rat))) (some (M:Rat)):=.enc ((Bq.int a7).fit A1 A1)
 have C:∀H,St 44 [.agg (gL (some (M:Rat))),.agg (gL (some (M:Rat)))] H (.ret (.agg (gL (some ((M+M:Int):Rat))))) H:=by rw[<-eM];exact toT Zao Zao (Ls ar ar)
 have ae:∀k:Int,k.natAbs<=2^10->∀H,St 20 [.agg (bd name ls w R B r1),.agg (gL (some (k:Rat)))] H (.ret (.agg (mC (jN ls k)))) H:=fun k E=>toT (fb _ (eW (some (k:Rat)))) Zbt (aDb r E w R B r1)
 have i0:=ae M A0;have i1:=ae (M+M) A0;have lM:=cZ (some (M:Rat));clear ae;refine cC fun f N=>?_;have u:=Kg (i:=1) N;have P:=Kf (i:=2) N;clear N;generalize hX:aB.alloc _ _=HA;have D:=Kv (i:=0) hX;have an:HA.next=1:=by subst hX;rfl
 have W:aY HA:=by subst hX;exact(aY.nil _).alloc _
 clear hX;refine bP ?_;simp only[↓zP,zG,seval,u,w1,w2];refine eI (o1 _) ?_;simp only[↓zP,zJ,seval,an,oL fV,lM];refine bQ ?_;generalize hX:aB.set _ 1 _=t;have b0:=Kx (i:=0) hX;have b1:=Kv (i:=1) hX;have Q:t.next=2:=by subst hX;simp only[zI,seval,an]
 have bF:aY t:=by subst hX;exact(W.alloc _).set (by simp only[zI,seval,an]<;>omega) _
 clear hX D an W HA;refine cC fun g d=>?_;have e:=Ks d P;have A:=Kf (i:=5) d;clear d u P o1;have n:∀x,(mC x).length=3:=fun _=>rfl;refine aP fun K hK=>?_;refine fZ 2 A1 bF.at2 fun H1 n1 T=>?_;simp only[↓zP,zJ,seval,zD,e,A,T,b0,b1,G,oL G,lM,oL lM];refine gV (i0 _) ?_;simp only[↓zP,zJ,seval,zD,e,A,T,b0,b1,G,oL G,lM,oL lM];refine gV (C _) ?_;simp only[seval];refine gV (i1 _) ?_;simp only[↓zP,zJ,seval,zD,n1,Q,T,n];apply hK;clear hK K i0 i1 C;generalize hX:aB.set _ 3 (eS.cells (mC (jN ls (M+M))) false)=HC;have c2:=Kv (i:=2) hX;have az:=Kv (i:=3) hX;have cn:HC.next=4:=by subst hX;simp only[zI,seval,n1,Q]
 have cF:aY HC:=by
  subst hX;have aN:aY H1:=fun q hq=>by rw[T q];exact bF q A0
  exact(((aN.set A0 _).set Zah _).set Zah _).set Zah _
 clear hX b0 b1 Q bF n1 T H1 t G fb;refine cC fun f N=>?_;have L:=Kf (i:=6) N;have f7:=Kf (i:=7) N;clear N e A;have ak:∀H,St 45 [.agg (mC (jN ls M))] H (.ret (.iV [.bool true,.int .i64 0])) H:=toT Zbt rfl (aPf r ab A0);refine aP fun K hK=>?_;simp only[↓zP,zJ,seval,L,c2,n,oL (n (jN ls M))];refine eI (ak _) ?_;refine Ty ?_;apply hK;clear hK K ak;have Y:∀x,(mC x).getD 2 aC=.bK 0 36 (mR x 9):=fun _=>rfl;refine bP ?_;have := @jR;have :((0:Int) != 0)=false:=rfl;have :((9:Int) != 9)=false:=rfl;refine Wz ?_;refine bQ ?_;refine cC fun g d=>?_;have g6:=Ks d L;have o:=Ks d f7;clear d L f7;have Z:=fun k p=>cZ (jN ls k p);have b4:asNat (.int .i64 4)=some 4:=rfl;have b3:asNat (.int .i64 8)=some 8:=rfl;have gt:∀k p,p<9->(mR (jN ls k) 9).getD p []=gL (jN ls k p):=fun k p m=>VN _ m;refine bP ?_;refine fZ 3 A1 (aY.at3 cF) fun H1 n1 T=>?_;simp only[↓zP,zJ,seval,zD,g6,T,c2,n,AH,b4,b3,Y,jR,gt M 0 A1,gt M 4 A1,gt M 8 A1,Z,oL (Z M 0),oL (Z M 4),oL (Z M 8),n1,cn,oL fV];refine bQ ?_;generalize hX:aB.set _ 6 (eS.cells (gL (jN ls M 8)) false)=HD;have d2:HD.get 2=some (.cells (mC (jN ls M)) false):=by subst hX;simp only[zI,seval,T,c2]
 have d3:HD.get 3=some (.cells (mC (jN ls (M+M))) false):=by subst hX;simp only[zI,seval,T,az]
 have y:=Kv (i:=4) hX;have j:=Kv (i:=5) hX;have d6:=Kv (i:=6) hX;clear hX c2 az cn cF n1 T H1 HC;refine cC fun f N=>?_;have L:=Ks N g6;have f7:=Ks N o;have h:=Kf (i:=10) N;have s:=Kf (i:=11) N;have O:=Kf (i:=12) N;clear N g6 o;have a6:=aTb r (k:=M) A0;refine bP ?_;refine bP ?_;simp only[↓zP,zJ,seval,L,d2,n,Y,jR];refine bQ ?_;refine bR [] (fun _ _ H'=>H'=HD) 9 A1 A1 ?_ ?_ ?_ ?_ ?_
 . exact zq
 . exact zq
 . rfl
 . rintro i g H1 F E T rfl;have g6:g 6=.ref 2 0:=by rw[E 6 rfl];simp only[zB,seval];exact L
   have o:g 7=.ref 3 0:=(by rw[E 7 rfl];simp only[zB,seval];exact f7);clear E
   have C:∀H,St 44 [.agg (gL (jN ls M i)),.agg (gL (jN ls M i))] H (.ret (.agg (gL (jN ls (M+M) i)))) H:=by rw[bBc r a7];exact toT Zao Zao (Ls (a6 i) (a6 i))
   have eq:=aEb (aTb r (k:=M+M) A0 i);have ga:=gt M i F;have gb:=gt (M+M) i F;refine aM ?_;refine bP ?_;refine Wz ?_;refine fQ ?_;refine Dz ?_;simp only[↓zP,zJ,seval,zD,g6,o,d2,d3,n,Y,jR,aI,F,ga,gb,Z,oL (Z M i),oL (Z (M+M) i)];refine gV (C _) ?_;simp only[↓zP,zJ,seval,zD,eq];refine bQ ?_;exact Zbj
 rintro g H1 E rfl;have aj:g 10=.ref 4 0:=by rw[E 10 rfl];simp only[zB,seval];exact h
 have ag:g 11=.ref 5 0:=by rw[E 11 rfl];simp only[zB,seval];exact s
 have af:g 12=.ref 6 0:=by rw[E 12 rfl];simp only[zB,seval];exact O
 clear E L f7 h s O d2 d3;refine Tx ?_;refine bQ ?_;have aq:∀a b,lA (gL (mT (jN ls M a) (jN ls M b))) (mT (jN ls M a) (jN ls M b)):=fun a b=>.add (a6 a) (a6 b);have C:∀a b H,St 44 [.agg (gL (jN ls M a)),.agg (gL (jN ls M b))] H (.ret (.agg (gL (mT (jN ls M a) (jN ls M b))))) H:=fun a b=>toT Zao Zao (Ls (a6 a) (a6 b));have cm:∀a b c H,St 42 [.agg (gL (jN ls M a)),.agg (gL (mT (jN ls M b) (jN ls M c)))] H (.ret (.int .i64 (OI (jN ls M a) (mT (jN ls M b) (jN ls M c))))) H:=fun a b c=>toT Zao rfl (aPo (a6 a) (aq b c));have nd:=aKf r;have aK:decide (OI (jN ls M 0) (mT (jN ls M 4) (jN ls M 8))<=0)=true:=Af (aFt r ab A0 nd.1);have aE:decide (OI (jN ls M 4) (mT (jN ls M 0) (jN ls M 8))<=0)=true:=Af (aFt r ab A0 nd.2.1);have aA:decide (OI (jN ls M 8) (mT (jN ls M 0) (jN ls M 4))<=0)=true:=Af (aFt r ab A0 nd.2.2);clear nd a6 aq gt;refine bP ?_;refine Dz ?_;refine Tx ?_;refine gV (aO _) ?_;simp only[↓zP,zJ,seval,zD,aj,ag,af,y,j,d6,Z,oL (Z M 0),oL (Z M 4),oL (Z M 8)];refine gV (C 4 8 _) ?_;simp only[↓zP,zG,seval,zD];refine gV (cm 0 4 8 _) ?_;simp only[↓zP,zJ,seval,zD,aK,aj,ag,af,y,j,d6,Z,oL (Z M 0),oL (Z M 4),oL (Z M 8)];refine gV (C 0 8 _) ?_;simp only[↓zP,zG,seval,zD];refine gV (cm 4 0 8 _) ?_;simp only[↓zP,zJ,seval,zD,aE,aj,ag,af,y,j,d6,Z,oL (Z M 0),oL (Z M 4),oL (Z M 8)];refine gV (C 0 4 _) ?_;simp only[↓zP,zG,seval,zD];refine gV (cm 8 0 4 _) ?_;simp only[↓zP,zJ,seval,zD,aA];refine bQ ?_;refine Tx ?_;exact ZaB
end Go.Proofs.YtogfcjbgeebfkaaGreatDoor
