/-
  Part of the proof of statement 9
-/
import Derived.Test.YtogfcjbgeebfkaaGreatDoorA37
import Derived.Test.YtogfcjbgeebfkaaGreatDoorA09
import Derived.Test.YtogfcjbgeebfkaaGreatDoorA24
import Derived.Test.YtogfcjbgeebfkaaGreatDoorA07
import Derived.Test.YtogfcjbgeebfkaaGreatDoorA21
import Derived.Test.YtogfcjbgeebfkaaGreatDoorA23
import Derived.Test.YtogfcjbgeebfkaaGreatDoorA38
import Derived.Test.YtogfcjbgeebfkaaGreatDoorA08
import Derived.Test.YtogfcjbgeebfkaaGreatDoorA10
import Derived.Test.YtogfcjbgeebfkaaGreatDoorA12
import Derived.Test.YtogfcjbgeebfkaaGreatDoorA14
import Derived.Test.YtogfcjbgeebfkaaGreatDoorA16
import Derived.Test.YtogfcjbgeebfkaaGreatDoorA18
import Derived.Test.YtogfcjbgeebfkaaGreatDoorA25
import Derived.Test.YtogfcjbgeebfkaaGreatDoorA27
import Derived.Test.YtogfcjbgeebfkaaGreatDoorA29
import Derived.Test.YtogfcjbgeebfkaaGreatDoorA31
import Derived.Test.YtogfcjbgeebfkaaGreatDoorA33
import Derived.Test.YtogfcjbgeebfkaaGreatDoorA35
import Derived.Test.YtogfcjbgeebfkaaGreatDoorA20
import Derived.Test.YtogfcjbgeebfkaaGreatDoorA22
import Derived.Test.YtogfcjbgeebfkaaGreatDoorProg
import Derived.Shelf.Strings.OnBuilder
import Derived.Shelf.Strings.Count
import Derived.Shelf.Strings.Search3
set_option linter.unusedSimpArgs false
set_option linter.unusedVariables false
set_option maxRecDepth 1000000
set_option maxHeartbeats 16000000
namespace Go.Proofs
open Go.Shelf
def Tryz.YJ:Go.Shelf.Ren:=⟨fun |143=>266|219=>306|217=>328|225=>329|224=>330|267=>331|266=>352|314=>353|n=>n,fun |9=>9|3=>3|4=>4|5=>5|46=>151|146=>304|51=>26|n=>n,fun |1=>0|n=>n⟩
theorem Tryz.aOj:Go.Proofs.Lays.n143 Tryz.prog Tryz.YJ:={
 mixed:=by kernel_rfl
 f143:=Tryz.func266.trans (Am some (by kernel_rfl))
 f217:=Tryz.func328.trans (Am some (by kernel_rfl))
 f219:=Tryz.func306.trans (Am some (by kernel_rfl))
 f224:=Tryz.func330.trans (Am some (by kernel_rfl))
 f225:=Tryz.func329.trans (Am some (by kernel_rfl))
 f266:=Tryz.func352.trans (Am some (by kernel_rfl))
 f267:=Tryz.func331.trans (Am some (by kernel_rfl))
 f314:=Tryz.func353.trans (Am some (by kernel_rfl))
 t3:=Tryz.underlying3
 a3:=Tryz.isAgg3
 z3:=Tryz.sizeOf3
 v3:=Tryz.zeroValue3
 t4:=Tryz.underlying4
 a4:=Tryz.isAgg4
 z4:=Tryz.sizeOf4
 v4:=Tryz.zeroValue4
 t5:=Tryz.underlying5
 a5:=Tryz.isAgg5
 z5:=Tryz.sizeOf5
 v5:=Tryz.zeroValue5
 t9:=Tryz.underlying9
 a9:=Tryz.isAgg9
 z9:=Tryz.sizeOf9
 v9:=Tryz.zeroValue9
 t46:=Tryz.underlying151
 a46:=Tryz.isAgg151
 z46:=Tryz.sizeOf151
 v46:=Tryz.zeroValue151
 t51:=Tryz.underlying26
 a51:=Tryz.isAgg26
 z51:=Tryz.sizeOf26
 v51:=Tryz.zeroValue26
 t146:=Tryz.underlying304
 a146:=Tryz.isAgg304
 z146:=Tryz.sizeOf304
 v146:=Tryz.zeroValue304
 g1:=by kernel_rfl}
def Tryz.YI:Go.Shelf.Ren:=⟨fun |138=>265|195=>303|218=>305|143=>266|219=>306|217=>328|225=>329|224=>330|267=>331|266=>352|314=>353|n=>n,fun |9=>9|3=>3|4=>4|5=>5|0=>0|46=>151|146=>304|51=>26|n=>n,fun |1=>0|n=>n⟩
theorem Tryz.aOi:Go.Proofs.Lays.n138 Tryz.prog Tryz.YI:={
 mixed:=by kernel_rfl
 f138:=Tryz.func265.trans (Am some (by kernel_rfl))
 f143:=Tryz.func266.trans (Am some (by kernel_rfl))
 f195:=Tryz.func303.trans (Am some (by kernel_rfl))
 f217:=Tryz.func328.trans (Am some (by kernel_rfl))
 f218:=Tryz.func305.trans (Am some (by kernel_rfl))
 f219:=Tryz.func306.trans (Am some (by kernel_rfl))
 f224:=Tryz.func330.trans (Am some (by kernel_rfl))
 f225:=Tryz.func329.trans (Am some (by kernel_rfl))
 f266:=Tryz.func352.trans (Am some (by kernel_rfl))
 f267:=Tryz.func331.trans (Am some (by kernel_rfl))
 f314:=Tryz.func353.trans (Am some (by kernel_rfl))
 t0:=Tryz.underlying0
 a0:=Tryz.isAgg0
 z0:=Tryz.sizeOf0
 v0:=Tryz.zeroValue0
 t3:=Tryz.underlying3
 a3:=Tryz.isAgg3
 z3:=Tryz.sizeOf3
 v3:=Tryz.zeroValue3
 t4:=Tryz.underlying4
 a4:=Tryz.isAgg4
 z4:=Tryz.sizeOf4
 v4:=Tryz.zeroValue4
 t5:=Tryz.underlying5
 a5:=Tryz.isAgg5
 z5:=Tryz.sizeOf5
 v5:=Tryz.zeroValue5
 t9:=Tryz.underlying9
 a9:=Tryz.isAgg9
 z9:=Tryz.sizeOf9
 v9:=Tryz.zeroValue9
 t46:=Tryz.underlying151
 a46:=Tryz.isAgg151
 z46:=Tryz.sizeOf151
 v46:=Tryz.zeroValue151
 t51:=Tryz.underlying26
 a51:=Tryz.isAgg26
 z51:=Tryz.sizeOf26
 v51:=Tryz.zeroValue26
 t146:=Tryz.underlying304
 a146:=Tryz.isAgg304
 z146:=Tryz.sizeOf304
 v146:=Tryz.zeroValue304
 g1:=by kernel_rfl}
def Tryz.OJ:Go.Shelf.Ren:=⟨fun |156=>87|165=>174|166=>175|169=>176|240=>227|241=>228|276=>273|277=>274|n=>n,fun |31=>113|9=>9|3=>3|4=>4|0=>0|20=>20|72=>180|76=>184|70=>177|37=>178|75=>183|127=>232|164=>272|5=>5|80=>186|n=>n,fun |n=>n⟩
theorem Tryz.aOk:Go.Proofs.Lays.n156 Tryz.prog Tryz.OJ:={
 mixed:=by kernel_rfl
 f156:=Tryz.func87.trans (Am some (by kernel_rfl))
 f165:=Tryz.func174.trans (Am some (by kernel_rfl))
 f166:=Tryz.func175.trans (Am some (by kernel_rfl))
 f169:=Tryz.func176.trans (Am some (by kernel_rfl))
 f240:=Tryz.func227.trans (Am some (by kernel_rfl))
 f241:=Tryz.func228.trans (Am some (by kernel_rfl))
 f276:=Tryz.func273.trans (Am some (by kernel_rfl))
 f277:=Tryz.func274.trans (Am some (by kernel_rfl))
 t0:=Tryz.underlying0
 a0:=Tryz.isAgg0
 z0:=Tryz.sizeOf0
 v0:=Tryz.zeroValue0
 t3:=Tryz.underlying3
 a3:=Tryz.isAgg3
 z3:=Tryz.sizeOf3
 v3:=Tryz.zeroValue3
 t4:=Tryz.underlying4
 a4:=Tryz.isAgg4
 z4:=Tryz.sizeOf4
 v4:=Tryz.zeroValue4
 t9:=Tryz.underlying9
 a9:=Tryz.isAgg9
 z9:=Tryz.sizeOf9
 v9:=Tryz.zeroValue9
 t20:=Tryz.underlying20
 a20:=Tryz.isAgg20
 z20:=Tryz.sizeOf20
 v20:=Tryz.zeroValue20
 t31:=Tryz.underlying113
 a31:=Tryz.isAgg113
 z31:=Tryz.sizeOf113
 v31:=Tryz.zeroValue113
 t37:=Tryz.underlying178
 a37:=Tryz.isAgg178
 z37:=Tryz.sizeOf178
 v37:=Tryz.zeroValue178
 t70:=Tryz.underlying177
 a70:=Tryz.isAgg177
 z70:=Tryz.sizeOf177
 v70:=Tryz.zeroValue177
 t72:=Tryz.underlying180
 a72:=Tryz.isAgg180
 z72:=Tryz.sizeOf180
 v72:=Tryz.zeroValue180
 t75:=Tryz.underlying183
 a75:=Tryz.isAgg183
 z75:=Tryz.sizeOf183
 v75:=Tryz.zeroValue183
 t76:=Tryz.underlying184
 a76:=Tryz.isAgg184
 z76:=Tryz.sizeOf184
 v76:=Tryz.zeroValue184
 t127:=Tryz.underlying232
 a127:=Tryz.isAgg232
 z127:=Tryz.sizeOf232
 v127:=Tryz.zeroValue232
 t164:=Tryz.underlying272
 a164:=Tryz.isAgg272
 z164:=Tryz.sizeOf272
 v164:=Tryz.zeroValue272}
theorem Tryz.KL:Builder.Extra Tryz.prog Tryz.OJ:={
 sizeBuilder:=by kernel_rfl
 liesBuilder:=by kernel_rfl
 t5:=Tryz.underlying5
 a5:=Tryz.isAgg5
 z5:=Tryz.sizeOf5
 v5:=Tryz.zeroValue5
 infoByte:=by kernel_rfl
 cellsByte:=by kernel_rfl
 sizeByte:=by kernel_rfl
 neB5:=by decide}
end Go.Proofs
namespace Go.Proofs.YtogfcjbgeebfkaaGreatDoor
open Go Go.Av
attribute [local congr] aX aQ aR aL bA aW aS aG bB
attribute [local irreducible] FC bT eI
def bEe(fn:Go.Func):Code:=fn.body.getD .skip
def RPw:{x // Zq Tryz.prog mG false (bEe Tryz.f125)=some x}:=by
 apply Subtype.mk
 conv=>lhs;cbv
theorem bRf:aCn Tryz.prog mG false 125 9 RPw.1.1 RPw.1.2.1 RPw.1.2.2:=⟨Tryz.f125,_,Tryz.func125,rfl,by kernel_rfl,RPw.2,by kernel_rfl,by kernel_rfl⟩
theorem aAe(args:List AV)(I:args.length=2)(H:aA):IL Tryz.prog mG 125 args none H H:=by refine Uf SM bRf A0 ?_;show bT Tryz.prog mG 9 [⟨(some 2),.wE (.tmp 3),none⟩] (kI (fD args) 3 .rE) [] H (iP (fun f d H'=>FC Tryz.prog mG 9 RPw.1.2.2 f d H' _) _);unfold RPw;dsimp only;have n1:JN .ifc .rE=some true:=rfl;simp only[↓zP,zJ,seval,n1,Bool.or_true,Ee,Jo,Ld]
end Go.Proofs.YtogfcjbgeebfkaaGreatDoor
namespace Go.Proofs.YtogfcjbgeebfkaaGreatDoor
open Go Go.Av Go.aC
def plX(l:List aC.V)(q:aC.V×Int):List Nat:=aIe (iE (fun i=>l.getD i V0) l.length q.1 q.2) (uM q.1 (fun i=>l.getD i V0) (iE (fun i=>l.getD i V0) l.length q.1 q.2))
variable{l:List aC.V}
theorem Ux(U:l.Pairwise iO){q:aC.V×Int}(D:q∈dY l):fU l q=plX l q:=aQa ((jO U).po q D)
variable{S:List (aC.V×Int)}
theorem Uz(h:Oc (fun i=>l.getD i V0) l.length S=true):dY l=S:=(lT l).uniq (BH h)
theorem ZI{L g:aC.V×Int->List Nat}(h:∀q∈S,L q=g q)(k:Nat):gV S L k=gV S g k:=by
 unfold gV
 grind
theorem Zz(l C:List aC.V){S:List (aC.V×Int)}{L g:aC.V×Int->List Nat}(h:∀q∈S,L q=g q):Od l C S L=Od l C S g:=by
 have m:gZ C S L=gZ C S g:=by unfold gZ;rw[show gV S L=gV S g from funext (ZI h)]
 have N:iW l C S L=iW l C S g:=by simp[iW,m]
 simp[Od,N,m]
def Rb:List aC.V->Bool
 |[]=>true
 |v::r=>(r.all fun x=>ltV v x)&&Rb r
theorem MN:∀{l:List aC.V},Rb l=true->l.Pairwise iO
 |[],_=>.nil
 |q::r,h=>by simp only[Rb,Ak,Bh] at h;exact Ck.2 ⟨fun x C=>pq.1 (h.1 x C),MN h.2⟩
theorem Ul(U:Rb l=true)(h:Oc (fun i=>l.getD i V0) l.length S=true):mS l=Od l l S (plX l):=by have M:=MN U;unfold mS;rw[Lz M,Zz l l (S:=dY l) fun q D=>Ux M D,Uz h]
theorem aEv(U:Rb l=true)(h:Oc (fun i=>l.getD i V0) l.length S=true):vJ l S (plX l) where
 fl:=BH h
 po q hq:=by
  have y:q∈dY l:=by rw[Uz h];omega
  have :=(jO (MN U)).po q y
  rwa [Ux (MN U) y] at this
def edX(l:List aC.V)(S:List (aC.V×Int)):List aC.V:=(KH S (plX l)).map fun x=>aC.sub (l.getD x.2.toNat V0) (l.getD x.1.toNat V0)
theorem TC{L g:aC.V×Int->List Nat}:∀{S:List (aC.V×Int)},(∀q∈S,L q=g q)->KH S L=KH S g
 |[],_=>rfl
 |q::S,h=>by
  have z:=TC (S:=S) fun x C=>h x (As _ C);unfold KH at z ⊢
  grind
theorem PD(U:Rb l=true)(h:Oc (fun i=>l.getD i V0) l.length S=true){v:aC.V}:IsE l v↔v∈edX l S:=by
 have M:=MN U;have L:=jO M;have u:=Uz h;have B:KH S (plX l)=KH (dY l) (fU l):=by rw[u];exact(TC fun q D=>Ux M (by grind)).symm
 unfold edX;rw[B,Bb];constructor
 . rintro⟨q,D,a,b,O,Z,W,rfl⟩;have y:=(L.fl.mem q).2 D;exact⟨pN (a,b),(BP L).2 ⟨q,y,a,b,(L.po q y).lZ.2 ⟨Z,O⟩,W,rfl⟩,by rfl⟩
 rintro⟨x,C,rfl⟩;obtain⟨q,D,a,b,O,Z,rfl⟩:=(BP L).1 C;have W:=(L.po q D).lZ.1 O;exact⟨q,(L.fl.mem q).1 D,a,b,W.2,W.1,Z,by rfl⟩
theorem Uq{a b:List aC.V}{T:List (aC.V×Int)}(I:Rb a=true)(X:Rb b=true)(c:Oc (fun i=>a.getD i V0) a.length S=true)(Q:Oc (fun i=>b.getD i V0) b.length T=true):
 lP a b=(mF S T (edX a S) (edX b T)).any (oJ a b):=by
 have s:∀n,n∈mF S T (edX a S) (edX b T)↔IsD a b n:=fun n=>by
  have C:∀(l:List aC.V) (S:List (aC.V×Int)),Oc (fun i=>l.getD i V0) l.length S=true->(n∈S.map (·.1)↔∃d,oM (fun i=>l.getD i V0) l.length n d):=fun l S h=>by
   have N:=BH h;rw[Bb];constructor
   . rintro⟨q,D,rfl⟩;exact⟨q.2,(N.mem q).1 D⟩
   rintro⟨d,hd⟩;exact⟨(n,d),(N.mem (n,d)).2 hd,rfl⟩
  have Y:n∈Mw (edX a S) (edX b T)↔∃u w,IsE a u/\IsE b w/\n=aC.aY u w/\n≠V0:=by
   simp only[Mw,Ed,Jb];constructor
   . rintro⟨u,K,w,L,h⟩;split at h
     . cases h
     rename_i R;obtain rfl:=Aa h;exact⟨u,w,(PD I c).2 K,(PD X Q).2 L,rfl,R⟩
   rintro⟨u,w,K,L,rfl,A⟩;exact⟨u,(PD I c).1 K,w,(PD X Q).1 L,by rw[if_neg A]⟩
  unfold mF IsD;rw[Cd,Ar,Ar,C a S c,C b T Q,Y,or_assoc]
 rw[Dc,Cj,nS];exact exists_congr fun n=>and_congr_left' (s n).symm
def fK(o:Int)(p:Int):List aC.V:=[⟨o,p,p⟩,⟨o,p,p+2⟩,⟨o,p+2,p⟩,⟨o,p+2,p+2⟩,⟨o+2,p,p⟩,⟨o+2,p,p+2⟩,⟨o+2,p+2,p⟩,⟨o+2,p+2,p+2⟩]
def XJ(o:Int)(p:Int):List (aC.V×Int):=[(⟨-1,0,0⟩,-o),(⟨0,-1,0⟩,-p),(⟨0,0,-1⟩,-p),(⟨0,0,1⟩,p+2),(⟨0,1,0⟩,p+2),(⟨1,0,0⟩,o+2)]
theorem FJ:Oc (fun i=>(fK 0 0).getD i V0) (fK 0 0).length (XJ 0 0)=true:=by rfl
theorem l6:Oc (fun i=>(fK 1 1).getD i V0) (fK 1 1).length (XJ 1 1)=true:=by rfl
theorem l8:Oc (fun i=>(fK 2 0).getD i V0) (fK 2 0).length (XJ 2 0)=true:=by rfl
theorem FK:Rb (fK 0 0)=true:=by rfl
theorem l7:Rb (fK 1 1)=true:=by rfl
theorem ma:Rb (fK 2 0)=true:=by rfl
theorem FL:mS (fK 0 0)=0:=by rw[Ul FK FJ];rfl
theorem xh:mS (fK 1 1)=0:=by rw[Ul l7 l6];rfl
theorem xi:mS (fK 2 0)=0:=by rw[Ul ma l8];rfl
theorem bo:lP (fK 0 0) (fK 0 0)=false:=by rw[Uq FK FK FJ FJ];rfl
theorem bp:lP (fK 0 0) (fK 1 1)=false:=by rw[Uq FK l7 FJ l6];rfl
theorem bq:lP (fK 0 0) (fK 2 0)=true:=by rw[Uq FK ma FJ l8];rfl
theorem RG:gD (fK 0 0)=0:=by unfold gD;rw[if_neg (by simp[FL]),show(fK 0 0).any vP=false by rfl];rfl
theorem bMv:uP [fK 0 0]=0:=by rw[wO (fun l U=>by rw[Bw] at U;subst U;exact RG)];rfl
theorem bMw:uP [fK 0 0,fK 0 0]=150:=by
 rw[wO (fun l U=>by
  have :l=fK 0 0:=by grind
  subst this;exact RG)]
 have :CO [fK 0 0,fK 0 0]=true:=JS (i:=1) (k:=0) A1 A1 bo
 grind
theorem aYp:oE [98] [fK 0 0] 8 10 500 700=0:=by unfold oE;rw[if_neg Zb3,if_neg A1,if_neg Zb3,bMv]
theorem aYq:oE [98] [fK 0 0,fK 0 0] 8 10 500 700=150:=by unfold oE;rw[if_neg Zb3,if_neg A1,if_neg Zb3,bMw]
def kK(o p:Int):AV:=.bJ 0 3 (bR (fK o p))
theorem Sy(o p:Int):qO (kK o p,fK o p):=.inr rfl
theorem aOz(H:aA):Sg 36 [.agg (eT [98] (.bJ 0 1 [[kK 0 0]]) 8 10 500 700)] H (.ret (.int .i64 0)) H:=by have :=Mj (name:=[98]) A1 (ps:=[(kK 0 0,fK 0 0)]) (fun p m=>by rw[Bw] at m;subst m;exact Sy 0 0) (fun p m=>by rw[Bw] at m;subst m;decide) A1 8 10 500 700 H;rw[show([(kK 0 0,fK 0 0)].map (·.2))=[fK 0 0] from rfl,aYp] at this;exact this
theorem aPa(H:aA):Sg 36 [.agg (eT [98] (.bJ 0 1 [[kK 0 0],[kK 0 0]]) 8 10 500 700)] H (.ret (.int .i64 150)) H:=by
 have :=Mj (name:=[98]) A1 (ps:=[(kK 0 0,fK 0 0),(kK 0 0,fK 0 0)]) (fun p m=>by
  have :p=(kK 0 0,fK 0 0):=by grind
  subst this;exact Sy 0 0) (fun p m=>by
  have :p=(kK 0 0,fK 0 0):=by grind
  subst this;decide) A1 8 10 500 700 H
 rw[show([(kK 0 0,fK 0 0),(kK 0 0,fK 0 0)].map (·.2))=[fK 0 0,fK 0 0] from rfl,aYq] at this;exact this
theorem bMf(H:aA):Sg 31 [.agg [kK 0 0],.agg [kK 1 1]] H (.ret (.bool false)) H:=by have :=Ur (ta:=0) (tb:=0) rfl rfl FL xh H;rw[bp] at this;exact this
theorem bMg(H:aA):Sg 31 [.agg [kK 0 0],.agg [kK 2 0]] H (.ret (.bool true)) H:=by have :=Ur (ta:=0) (tb:=0) rfl rfl FL xi H;rw[bq] at this;exact this
theorem aPb(H:aA):Sg 182 [.agg [kK 0 0]] H (.ret (.bJ (H.next+2) 5 ((XJ 0 0).map (cX (plX (fK 0 0)))))) (H.alloc .tok):=by have A:∀v∈fK 0 0,bN (2^18) v:=(nB FL).2.2.2.2.2.2;exact FE (tag:=0) rfl A (Ae _) A1 (aEv FK FJ) A1 H
end Go.Proofs.YtogfcjbgeebfkaaGreatDoor
namespace Go.Proofs.YtogfcjbgeebfkaaGreatDoor
open Go Go.Av Go.jG Go.aC
def cR(n d:Int):List AV:=cI n++cI d
def bCo:List AV->Option AV
 |[.agg c]=>match bx (c.take 18),bx (c.drop 18) with
  |some n,some d=>some (.bool (ZK n d).isSome)
  |_,_=>none
 |_=>none
variable{args:List AV}{v:AV}
theorem aPu(h:bCo args=some v)(H:aA):Sg 107 args H (.ret v) H:=by
 unfold bCo at h;split at h
 . rename_i c;split at h
   . rename_i n d A hd;cases h;exact mA ⟨_,_,n,d,(Ih 18 c).symm,KZ A,KZ hd,rfl⟩ H
   grind
 grind
def bCq:List (FuncId×(List AV->Option AV)):=[
 (51,aIb),
 (57,SZ fun x y=>.agg (cO (nL x y))),
 (158,SZ fun x y=>.agg (cO (nL x (wG y)))),
 (114,SZ fun x y=>.agg (cO (lY x y))),
 (165,aAa fun x=>.agg (cO (wG x))),
 (199,aAa fun x=>.agg (cO (aYj x))),
 (110,aAa fun x=>.int .i64 (jF x)),
 (95,SZ fun x y=>.int .i64 (lO x y)),
 (156,aAa fun x=>.jS [.int .i64 (fH x).1,.bool (fH x).2]),
 (108,SZ fun x y=>.agg (cO (pM x y).1)),
 (109,SZ fun x y=>.agg (cO (pM x y).2)),
 (113,SZ fun x y=>.agg (cO (aFd x y))),
 (106,SZ fun x y=>.agg (eB (rQ x y))),
 (107,bCo)]
theorem aPw:∀e∈bCq,∀args v,e.2 args=some v->∀H,Sg e.1 args H (.ret v) H:=by
 simp only[bCq,List.forall_mem_cons]
 exact⟨fun _ _ h H=>aIc h H,fun _ _ h H=>xP (fun _ _ _ _ I X H=>tU I X H) h H,fun _ _ h H=>xP (fun _ _ _ _ I X H=>Ug I X H) h H,fun _ _ h H=>xP (fun _ _ _ _ I X H=>tX I X H) h H,
  fun _ _ h H=>PH (fun _ _ I H=>PX I H) h H,fun _ _ h H=>PH (fun _ _ I H=>aCa I H) h H,fun _ _ h H=>PH (fun _ _ I H=>uQ I H) h H,fun _ _ h H=>xP (fun _ _ _ _ I X H=>DE I X H) h H,
  fun _ _ h H=>PH (fun _ _ I H=>zA I H) h H,fun _ _ h H=>xP (fun _ _ _ _ I X H=>DI I X H) h H,fun _ _ h H=>xP (fun _ _ _ _ I X H=>Uc I X H) h H,fun _ _ h H=>xP (fun _ _ _ _ I X H=>UY I X H) h H,
  fun _ _ h H=>xP (fun _ _ _ _ I X H=>rH I X H) h H,fun _ _ h H=>aPu h H,fun e B=>absurd B Ci⟩
def aPx(f:FuncId)(args:List AV):Option AV:=
 match bCq.find? fun e=>Nat.beq f e.1 with
 |some e=>e.2 args
 |none=>none
theorem qw{f:FuncId}(h:aPx f args=some v)(H:aA):Sg f args H (.ret v) H:=by
 unfold aPx at h;split at h
 . rename_i e B;have N:=List.find?_some B;obtain rfl:=Ch N;exact aPw e (Jj B) _ _ h H
 grind
def aGk:List AV->Bool
 |[.agg c]=>tN (qF c) [kK 0 0]
 |_=>false
def aRq:List (List AV):=[
 [.int .i64 (-1),.int .i64 0,.int .i64 0,.int .i64 0,.bJ 0 1 [[.int .i64 0],[.int .i64 1],[.int .i64 3],[.int .i64 2]]],
 [.int .i64 0,.int .i64 (-1),.int .i64 0,.int .i64 0,.bJ 0 1 [[.int .i64 0],[.int .i64 4],[.int .i64 5],[.int .i64 1]]],
 [.int .i64 0,.int .i64 0,.int .i64 (-1),.int .i64 0,.bJ 0 1 [[.int .i64 0],[.int .i64 2],[.int .i64 6],[.int .i64 4]]],
 [.int .i64 0,.int .i64 0,.int .i64 1,.int .i64 2,.bJ 0 1 [[.int .i64 1],[.int .i64 5],[.int .i64 7],[.int .i64 3]]],
 [.int .i64 0,.int .i64 1,.int .i64 0,.int .i64 2,.bJ 0 1 [[.int .i64 2],[.int .i64 3],[.int .i64 7],[.int .i64 6]]],
 [.int .i64 1,.int .i64 0,.int .i64 0,.int .i64 2,.bJ 0 1 [[.int .i64 4],[.int .i64 6],[.int .i64 7],[.int .i64 5]]]]
theorem aEj:(XJ 0 0).map (cX (plX (fK 0 0)))=aRq:=by rfl
def bMk(f:FuncId)(args:List AV)(H:aA):Option (Out×aA):=
 match aPx f args with
 |some v=>some (.ret v,H)
 |none=>match Nat.beq f 182 with
 |true=>match aGk args with
  |true=>some (.ret (.bJ (H.next+2) 5 aRq),H.alloc .tok)
  |false=>none
 |false=>none
theorem gR:PZ Tryz.prog gv bMk:=by
 intro f args H out H' h;unfold bMk at h;split at h
 . rename_i v J;cases h;exact qw J H
 split at h
 . rename_i N;obtain rfl:=Ch N;split at h
   . rename_i R;cases h
     obtain⟨c,rfl,R⟩:∃c,args=[.agg c]/\tN (qF c) [kK 0 0]=true:=by
      unfold aGk at R
      grind
     refine Sound.ct ?_
     have e:qF [AV.agg c]=[.agg [kK 0 0]]:=by grind[qF,ct,tO]
     rw[e,<-aEj];exact aPb H
   grind
 grind
end Go.Proofs.YtogfcjbgeebfkaaGreatDoor
namespace Go.Proofs.YtogfcjbgeebfkaaGreatDoor
open Go Go.Av Go.jG
def bRx:FT:=.node 210 (.node 90 (.node 29 (.node 25 (.leaf 9 W9T.1) (.node 26 (.leaf 25 aXo.1) (.leaf 26 aXr.1))) (.node 50 (.leaf 29 aYd.1) (.node 88 (.leaf 50 aYg.1) (.leaf 88 aYh.1)))) (.node 128 (.node 126 (.leaf 90 aYi.1) (.node 127 (.leaf 126 aCu.1) (.leaf 127 aCv.1))) (.node 177 (.node 133 (.leaf 128 aCw.1) (.leaf 133 aCx.1)) (.node 209 (.leaf 177 aCy.1) (.leaf 209 aDa.1))))) (.node 307 (.node 230 (.node 212 (.leaf 210 aDb.1) (.node 229 (.leaf 212 aDc.1) (.leaf 229 aDd.1))) (.node 267 (.node 232 (.leaf 230 aDe.1) (.leaf 232 aDf.1)) (.node 275 (.leaf 267 aDg.1) (.leaf 275 aDh.1)))) (.node 333 (.node 321 (.leaf 307 aDj.1) (.node 332 (.leaf 321 aDk.1) (.leaf 332 aDl.1))) (.node 354 (.node 334 (.leaf 333 aDm.1) (.leaf 334 aDn.1)) (.node 355 (.leaf 354 aDo.1) (.leaf 355 aDp.1)))))
theorem xU:bRx.All fun f F=>∃N,iM Tryz.prog mG N f F:=⟨⟨⟨⟨⟨_,bRe⟩,⟨⟨_,bJt⟩,⟨_,bJw⟩⟩⟩,⟨⟨_,bKi⟩,⟨⟨_,bKs⟩,⟨_,bLf⟩⟩⟩⟩,⟨⟨⟨_,bLg⟩,⟨⟨_,bAh⟩,⟨_,bAi⟩⟩⟩,⟨⟨⟨_,bAj⟩,⟨_,bAk⟩⟩,⟨⟨_,bAl⟩,⟨_,bAm⟩⟩⟩⟩⟩,⟨⟨⟨⟨_,bAn⟩,⟨⟨_,bAo⟩,⟨_,bAp⟩⟩⟩,⟨⟨⟨_,bAq⟩,⟨_,bAr⟩⟩,⟨⟨_,bAs⟩,⟨_,bAt⟩⟩⟩⟩,⟨⟨⟨_,bAu⟩,⟨⟨_,bAv⟩,⟨_,bAw⟩⟩⟩,⟨⟨⟨_,bAx⟩,⟨_,bAy⟩⟩,⟨⟨_,bAz⟩,⟨_,bBa⟩⟩⟩⟩⟩⟩
theorem bCf:DH Tryz.prog 265:=⟨_,Tryz.func265,by rfl,by rfl⟩
theorem bCg:DH Tryz.prog 266:=⟨_,Tryz.func266,by rfl,by rfl⟩
theorem bMh:DH Tryz.prog 87:=⟨_,Tryz.func87,by rfl,by rfl⟩
def aMy:List (List AV)->Option (List (List UInt8))
 |[]=>some []
 |[.str x]::r=>match aMy r with
  |some l=>some (x::l)
  |none=>none
 |_=>none
theorem mc:∀{els:List (List AV)} {l:List (List UInt8)},aMy els=some l->els=ZA l
 |[],l,h=>by cases h;rfl
 |[.str x]::r,l,h=>by
  simp only[aMy] at h;split at h
  . rename_i l' L;cases h;rw[mc L];rfl
  grind
def bMj(f:FuncId)(args:List AV)(H:aA):Option (Out×aA):=
 match aPx f args with
 |some v=>match cW args&&v.free with
  |true=>some (.ret v,H)
  |false=>none
 |none=>match Nat.beq f 265 with
 |true=>match args with
  |[.str s,.str [c]]=>some (.ret (.int .i64 (Lib.countByte s c)),H)
  |_=>none
 |false=>match Nat.beq f 266 with
 |true=>match args with
  |[.str s,.str [c]]=>some (.ret (.int .i64 (Lib.indexByte s c)),H)
  |_=>none
 |false=>match Nat.beq f 87 with
 |true=>match args with
  |[.bJ _ 1 els,.str sep]=>match aMy els with
   |some xs=>match Nat.blt 0 xs.length&&Nat.ble xs.length 1000&&Nat.ble (Lib.join xs sep).length 1000000 with
    |true=>some (.ret (.str (Lib.join xs sep)),H)
    |false=>none
   |none=>none
  |_=>none
 |false=>none
theorem xQ:PZ Tryz.prog mG bMj:=by
 intro f args H out H' h;unfold bMj at h;split at h
 . rename_i v J;split at h
   . rename_i N;cases h;rw[Ak] at N;exact ZD N.1 N.2 (qw J) H
   grind
 split at h
 . rename_i N;obtain rfl:=Ch N;split at h
   . cases h;rename_i s c _;refine Pe bCf (fun w=>?_) H;exact Any.strings_Count_one Tryz.aOi ⟨s.toArray⟩ c w
   grind
 split at h
 . rename_i N;obtain rfl:=Ch N;split at h
   . cases h;rename_i s c _;refine Pe bCg (fun w=>?_) H;exact Any.strings_Index_one Tryz.aOj ⟨s.toArray⟩ c w
   grind
 split at h
 . rename_i N;obtain rfl:=Ch N;split at h
   . rename_i tag els t _;split at h
     . rename_i xs C;split at h
       . rename_i R;cases h;rw[mc C];simp only[Ak,Im,Nat.ble_eq] at R;refine Zm bMh moT (fun e=>by grind) A0 A0 (fun d o c ys w O Z W h4 M=>?_) tag H;exact Any.strings_Join Tryz.aOk Tryz.KL d o c ys ⟨t.toArray⟩ w O Z W h4 M
       grind
     grind
   grind
 grind
end Go.Proofs.YtogfcjbgeebfkaaGreatDoor
namespace Go.Proofs.YtogfcjbgeebfkaaGreatDoor
open Go Go.Av Go.aC
def bRo:FT:=.node 116 (.node 58 (.node 37 (.node 17 (.node 13 (.leaf 10 W10.1) (.node 15 (.leaf 13 W13.1) (.leaf 15 W15.1))) (.node 20 (.leaf 17 W17.1) (.node 22 (.leaf 20 W20.1) (.leaf 22 W22.1)))) (.node 44 (.node 40 (.leaf 37 W37.1) (.node 41 (.leaf 40 W40.1) (.leaf 41 W41.1))) (.node 49 (.leaf 44 W44.1) (.node 52 (.leaf 49 W49.1) (.leaf 52 W52.1))))) (.node 73 (.node 64 (.node 62 (.leaf 58 W58.1) (.node 63 (.leaf 62 W62.1) (.leaf 63 W63.1))) (.node 65 (.leaf 64 W64.1) (.node 66 (.leaf 65 W65.1) (.leaf 66 W66.1)))) (.node 80 (.node 74 (.leaf 73 W73.1) (.node 78 (.leaf 74 W74.1) (.leaf 78 W78.1))) (.node 81 (.leaf 80 W80.1) (.node 115 (.leaf 81 W81.1) (.leaf 115 aKz.1)))))) (.node 200 (.node 147 (.node 130 (.node 117 (.leaf 116 aLa.1) (.node 129 (.leaf 117 aLb.1) (.leaf 129 aLc.1))) (.node 138 (.leaf 130 aUt.1) (.node 139 (.leaf 138 aLd.1) (.leaf 139 aLe.1)))) (.node 164 (.node 148 (.leaf 147 aLf.1) (.node 157 (.leaf 148 aLg.1) (.leaf 157 aLh.1))) (.node 167 (.leaf 164 aLi.1) (.node 185 (.leaf 167 aLj.1) (.leaf 185 aLm.1))))) (.node 243 (.node 203 (.node 201 (.leaf 200 aLp.1) (.node 202 (.leaf 201 aLq.1) (.leaf 202 aLr.1))) (.node 211 (.leaf 203 aLs.1) (.node 214 (.leaf 211 aWg.1) (.leaf 214 aLt.1)))) (.node 260 (.node 244 (.leaf 243 aLu.1) (.node 259 (.leaf 244 aLv.1) (.leaf 259 aLx.1))) (.node 261 (.leaf 260 aLy.1) (.node 294 (.leaf 261 aLz.1) (.leaf 294 aMc.1))))))
theorem gS:bRo.All fun f F=>∃N,iM Tryz.prog gv N f F:=⟨⟨⟨⟨⟨⟨_,bQa⟩,⟨⟨_,bGu⟩,⟨_,bHi⟩⟩⟩,⟨⟨_,bHr⟩,⟨⟨_,bIg⟩,⟨_,bQc⟩⟩⟩⟩,⟨⟨⟨_,bKm⟩,⟨⟨_,bKn⟩,⟨_,bKo⟩⟩⟩,⟨⟨_,bKp⟩,⟨⟨_,bQl⟩,⟨_,bQn⟩⟩⟩⟩⟩,⟨⟨⟨⟨_,bKu⟩,⟨⟨_,bKv⟩,⟨_,bKw⟩⟩⟩,⟨⟨_,bKx⟩,⟨⟨_,bKy⟩,⟨_,bKz⟩⟩⟩⟩,⟨⟨⟨_,bLa⟩,⟨⟨_,bLb⟩,⟨_,bLc⟩⟩⟩,⟨⟨_,bLd⟩,⟨⟨_,bLe⟩,⟨_,aSj⟩⟩⟩⟩⟩⟩,⟨⟨⟨⟨⟨_,aSk⟩,⟨⟨_,aSl⟩,⟨_,aSm⟩⟩⟩,⟨⟨_,bGv⟩,⟨⟨_,aSn⟩,⟨_,aSo⟩⟩⟩⟩,⟨⟨⟨_,aSp⟩,⟨⟨_,aSq⟩,⟨_,aSr⟩⟩⟩,⟨⟨_,aSs⟩,⟨⟨_,aSt⟩,⟨_,aSw⟩⟩⟩⟩⟩,⟨⟨⟨⟨_,aSz⟩,⟨⟨_,aTa⟩,⟨_,aTb⟩⟩⟩,⟨⟨_,aTc⟩,⟨⟨_,bIl⟩,⟨_,aTd⟩⟩⟩⟩,⟨⟨⟨_,aTe⟩,⟨⟨_,aTf⟩,⟨_,aTh⟩⟩⟩,⟨⟨_,aTi⟩,⟨⟨_,aTj⟩,⟨_,aTm⟩⟩⟩⟩⟩⟩⟩
def aEi:List AV:=[.agg [kK 0 0]]
def Ns:AV:=.agg (eT [98] (.bJ 0 1 [[kK 0 0]]) 8 10 500 700)
def bEa:AV:=.agg (eT [98] (.bJ 0 1 [[kK 0 0],[kK 0 0]]) 8 10 500 700)
def bNd:AV:=.agg (cR 1 1++cR 1 1++cR 1 1)
def bLz(a b:Int×Int):AV:=.agg [.int .i64 3,.int .i64 3,.bJ 0 36 [cR a.1 a.2,cR b.1 b.2,cR b.1 b.2,cR b.1 b.2,cR a.1 a.2,cR b.1 b.2,cR b.1 b.2,cR b.1 b.2,cR a.1 a.2]]
def i3(a b c:Int):AV:=.agg [.int .i64 a,.int .i64 b,.int .i64 c]
def kA:List Fact:=[
 (36,[Ns],.int .i64 0),(36,[bEa],.int .i64 150),
 (31,[.agg [kK 0 0],.agg [kK 1 1]],.bool false),(31,[.agg [kK 0 0],.agg [kK 2 0]],.bool true)]
theorem bLs:vK Tryz.prog gv kA:=(((vK.nil.cons bMg).cons bMf).cons aPa).cons aOz
def k1:Fact:=(58,aEi,.agg (cI 48))
theorem bLj:vK Tryz.prog gv (k1::kA):=bLs.GI fit eE gS gR dO 0 (by kernel_rfl)
def k2:Fact:=(65,aEi,bNd)
theorem bLk:vK Tryz.prog gv (k2::k1::kA):=bLj.GI fit eE gS gR dO 0 (by kernel_rfl)
def k3:Fact:=(78,aEi,bLz (64,3) (-8,1))
theorem bLl:vK Tryz.prog gv (k3::k2::k1::kA):=bLk.GI fit eE gS gR dO 1 (by kernel_rfl)
def kB:List Fact:=k3::k2::k1::kA
def k4:Fact:=(13,[Ns],.agg (cI 48))
theorem bLm:vK Tryz.prog gv (k4::kB):=bLl.GI fit eE gS gR dO 0 (by kernel_rfl)
def k5:Fact:=(15,[Ns],bNd)
theorem bLn:vK Tryz.prog gv (k5::k4::kB):=bLm.GI fit eE gS gR dO 0 (by kernel_rfl)
def k6:Fact:=(17,[Ns],i3 1 1 1)
theorem bLo:vK Tryz.prog gv (k6::k5::k4::kB):=bLn.GI fit eE gS gR dO 0 (by kernel_rfl)
def k7:Fact:=(20,[Ns,.agg (cR 8 1)],bLz (64,3) (-8,1))
theorem bLp:vK Tryz.prog gv (k7::k6::k5::k4::kB):=bLo.GI fit eE gS gR dO 1 (by kernel_rfl)
def kC:List Fact:=k7::k6::k5::k4::kB
def k8:Fact:=(10,[Ns],.jS [i3 0 0 0,i3 2 2 2])
theorem bLq:vK Tryz.prog gv (k8::kC):=bLp.GI fit eE gS gR dO 0 (by kernel_rfl)
def k9:Fact:=(22,[Ns],.int .i64 12)
theorem bLr:vK Tryz.prog gv (k9::k8::kC):=bLq.GI fit eE gS gR dO 0 (by kernel_rfl)
def kO(n:Int):Fact:=(40,[.int .i64 n],.agg (cR n 1))
theorem bBj:vK Tryz.prog gv (kO 1::k9::k8::kC):=bLr.GI fit eE gS gR dO 0 (by kernel_rfl)
theorem bBk:vK Tryz.prog gv (kO 8::kO 1::k9::k8::kC):=bBj.GI fit eE gS gR dO 0 (by kernel_rfl)
theorem bBl:vK Tryz.prog gv (kO (-8)::kO 8::kO 1::k9::k8::kC):=bBk.GI fit eE gS gR dO 0 (by kernel_rfl)
def kD:List Fact:=kO (-8)::kO 8::kO 1::k9::k8::kC
def kF:Fact:=(41,[.int .i64 64,.int .i64 3],.agg (cR 64 3))
theorem bLt:vK Tryz.prog gv (kF::kD):=bBl.GI fit eE gS gR dO 0 (by kernel_rfl)
def kU(o p:Int):Fact:=(49,[i3 o p p,.int .i64 2],.agg [kK o p])
theorem bBs:vK Tryz.prog gv (kU 0 0::kF::kD):=bLt.GI fit eE gS gR dO 1 (by kernel_rfl)
theorem bBt:vK Tryz.prog gv (kU 1 1::kU 0 0::kF::kD):=bBs.GI fit eE gS gR dO 1 (by kernel_rfl)
theorem bBu:vK Tryz.prog gv (kU 2 0::kU 1 1::kU 0 0::kF::kD):=bBt.GI fit eE gS gR dO 1 (by kernel_rfl)
def kE:List Fact:=kU 2 0::kU 1 1::kU 0 0::kF::kD
def kP(s:List UInt8)(n:Int):Fact:=(211,[.str s],.jS [.agg (cI n),.int .i64 0])
theorem bBm:vK Tryz.prog gv (kP [48] 0::kE):=bBu.GI fit eE gS gR dO 0 (by kernel_rfl)
theorem bBn:vK Tryz.prog gv (kP [50] 2::kP [48] 0::kE):=bBm.GI fit eE gS gR dO 0 (by kernel_rfl)
theorem bBo:vK Tryz.prog gv (kP [56] 8::kP [50] 2::kP [48] 0::kE):=bBn.GI fit eE gS gR dO 0 (by kernel_rfl)
def kG:List Fact:=kP [56] 8::kP [50] 2::kP [48] 0::kE
theorem bBp:vK Tryz.prog gv (kP [49,48] 10::kG):=bBo.GI fit eE gS gR dO 0 (by kernel_rfl)
theorem bBq:vK Tryz.prog gv (kP [53,48,48] 500::kP [49,48] 10::kG):=bBp.GI fit eE gS gR dO 0 (by kernel_rfl)
theorem bBr:vK Tryz.prog gv (kP [55,48,48] 700::kP [53,48,48] 500::kP [49,48] 10::kG):=bBq.GI fit eE gS gR dO 0 (by kernel_rfl)
def kH:List Fact:=kP [55,48,48] 700::kP [53,48,48] 500::kP [49,48] 10::kG
theorem bLu:vK Tryz.prog gv kH:=bBr
theorem bBc:vK Tryz.prog mG kH:=bDo bLu (by kernel_rfl)
def kN(n:Int)(s:List UInt8):Fact:=(88,[.int .i64 n],.str s)
theorem bBd:vK Tryz.prog mG (kN 0 [48]::kH):=bBc.GI SM yG xU xQ dO 0 (by kernel_rfl)
theorem bBe:vK Tryz.prog mG (kN 2 [50]::kN 0 [48]::kH):=bBd.GI SM yG xU xQ dO 0 (by kernel_rfl)
theorem bBf:vK Tryz.prog mG (kN 8 [56]::kN 2 [50]::kN 0 [48]::kH):=bBe.GI SM yG xU xQ dO 0 (by kernel_rfl)
def kL:List Fact:=kN 8 [56]::kN 2 [50]::kN 0 [48]::kH
theorem bBg:vK Tryz.prog mG (kN 10 [49,48]::kL):=bBf.GI SM yG xU xQ dO 0 (by kernel_rfl)
theorem bBh:vK Tryz.prog mG (kN 500 [53,48,48]::kN 10 [49,48]::kL):=bBg.GI SM yG xU xQ dO 0 (by kernel_rfl)
theorem bBi:vK Tryz.prog mG (kN 700 [55,48,48]::kN 500 [53,48,48]::kN 10 [49,48]::kL):=bBh.GI SM yG xU xQ dO 0 (by kernel_rfl)
def kM:List Fact:=kN 700 [55,48,48]::kN 500 [53,48,48]::kN 10 [49,48]::kL
def txt:List UInt8:=[98,111,100,121,32,98,32,109,97,115,115,32,56,32,49,48,32,114,111,117,103,104,32,53,48,48,32,55,48,48,10,112,97,114,116,32,48,32,48,32,48,32,48,32,48,32,50,32,48,32,50,32,48,32,48,32,50,32,50,32,50,32,48,32,48,32,50,32,48,32,50,32,50,32,50,32,48,32,50,32,50,32,50,10]
def kX:Fact:=(26,[Ns],.str txt)
theorem bLw:vK Tryz.prog mG (kX::kM):=bBi.GI SM yG xU xQ dO 0 (by kernel_rfl)
def bMe(f:FuncId)(k:Nat):Bool:=Nat.beq f 125&&Nat.beq k 2
theorem aOy:PY Tryz.prog mG bMe:=fun f k h args H I=>by simp only[bMe,Ak] at h;obtain rfl:=Ch h.1;obtain rfl:=Ch h.2;exact aAe args I H
theorem bLv:vK Tryz.prog mG ((9,[],.bool true)::kX::kM):=bLw.GI SM yG xU xQ aOy 0 (by kernel_rfl)
theorem aBe(H:aA):St 9 [] H (.ret (.bool true)) H:=bLv _ Az H
end Go.Proofs.YtogfcjbgeebfkaaGreatDoor
namespace Go.Proofs.YtogfcjbgeebfkaaGreatDoor
open Go Go.Av Go.aC Go.jG
attribute [local congr] aX aQ aR aL bA aW aS aG bB
attribute [local irreducible] FC bT eI
variable{name:List UInt8}
theorem bDy{pv:AV}{ps:List (AV×List aC.V)}(P:AY pv ps)(J:∀p∈ps,qO p)(h:Bp (ps.map (·.2)))(M C L r1:Int):eT name pv M C L r1=bd name (ps.map (·.2)) M C L r1:=by
 rcases P with ⟨_,Z⟩|h1
 . exact absurd (by grind) h.1
 rw[h1];congr 2;unfold qH pE;rw[Da];refine Dd fun p m=>?_
 rcases J p m with ⟨_,Z⟩|h1
 . have :=(nB (h.2.2 p.2 (Bb.2 ⟨p,m,rfl⟩)).1).2.2.2.2.2.1
   grind
 grind
theorem bdF(name:List UInt8)(ls:List (List aC.V))(M C L r1:Int):cW [AV.agg (bd name ls M C L r1)]=true:=by simp[sf,sM]
theorem aYl(name:List UInt8)(ls:List (List aC.V))(M C L r1:Int)(v:List AV)(J:cW v=true):cW [AV.agg (bd name ls M C L r1),.agg v]=true:=by simp[sf,sM,J]
variable{ls:List (List aC.V)}
theorem Bp.sz(h:Bp ls):∀l∈ls,l≠[]/\l.length<=64/\∀v∈l,bN (2^12) v:=fun l U=>by obtain⟨_,_,_,_,a,b,_⟩:=nB (h.2.2 l U).1;exact⟨b,a,(h.2.2 l U).2⟩
theorem bMb(h:Bp ls){d:aC.V}(hd:bN 1000 d)(K:Bp (xA (aC.neg d) ls))(M C L r1:Int)(H:aA):St 11 [.agg (bd name ls M C L r1),.agg (cG d)] H (.ret (.jS [.agg (bd name (xA (aC.neg d) ls) M C L r1),.int .i64 0])) H:=by refine ZD (aYl _ _ _ _ _ _ _ (bV d)) (by simp[sf,sM]) (aDt h.2.1 h.1 h.sz (by grind[bN]) (fun l U v J=>?_) M C L r1) H;exact(K.2.2 _ (Bb.2 ⟨l,U,rfl⟩)).2 v J
theorem bNj(I:name.length<2^63){ls:List (List aC.V)}(h:Bp ls){M C L r1:Int}(R:oE name ls M C L r1=0)(H:aA):St 36 [.agg (bd name ls M C L r1)] H (.ret (.int .i64 0)) H:=by
 refine ZD (bdF _ _ _ _ _ _) rfl (fun H=>?_) H
 have e:bd name ls M C L r1=eT name (.bJ 0 1 (qH (ls.map fun l=>(.bJ 0 3 (bR l),l)))) M C L r1:=by unfold bd qH pE;rw[Da];rfl
 have P:(ls.map fun l=>((AV.bJ 0 3 (bR l),l):AV×List aC.V)).map (·.2)=ls:=by rw[Da];exact Fv _
 have :=Mj I (ps:=ls.map fun l=>(.bJ 0 3 (bR l),l)) (fun p m=>by obtain⟨l,_,rfl⟩:=Bb.1 m;exact .inr rfl) (fun p m=>by obtain⟨l,U,rfl⟩:=Bb.1 m;have :=(h.sz l U).2.1;show l.length<_;omega) (by rw[Ah];have :=h.2.1;omega) M C L r1 H;rw[P,R] at this;rw[e];exact this
theorem bNe(h:Bp ls)(M C L r1:Int)(H:aA):St 13 [.agg (bd name ls M C L r1)] H (.ret (.agg (cO (qJ ls)))) H:=
 ZD (bdF _ _ _ _ _ _) (by simp[sf,sfI]) (Uj h.pok M C L r1) H
theorem aYn(h:Bp ls)(M C L r1:Int)(H:aA):St 15 [.agg (bd name ls M C L r1)] H (.ret (.agg (c3 fun i=>eB (FI ls i)))) H:=
 ZD (bdF _ _ _ _ _ _) (by exact dZ fun i _=>cS _) (lj h.pok M C L r1) H
theorem bGd(h:Bp ls){k:Int}(E:k.natAbs<=2^10)(M C L r1:Int)(H:aA):St 20 [.agg (bd name ls M C L r1),.agg (cQ (k:Rat))] H (.ret (.agg (mC (Li ls (some (k:Rat)))))) H:=
 ZD (aYl _ _ _ _ _ _ _ (cS (some (k:Rat)))) (by simp[sf,sP]) (aDs h E M C L r1) H
theorem bRh{x y:Nat->Option Rat}(C:∀i,gM (eB (x i)) (x i))(Q:∀i,gM (eB (y i)) (y i))(H:aA):St 38 [.agg (c3 fun i=>eB (x i)),.agg (c3 fun i=>eB (y i))] H (.ret (.agg (c3 fun i=>eB (yS (x i) (y i))))) H:=
 ZD (by simp only[sf,dZ fun i _=>cS (x i),dZ fun i _=>cS (y i)]) (by exact dZ fun i _=>cS _) (aAi ⟨_,rfl,fun i _=>C i⟩ ⟨_,rfl,fun i _=>Q i⟩) H
theorem gM.ce(ls:List (List aC.V))(i:Nat):gM (eB (FI ls i)) (FI ls i):=by
 unfold FI Us;split
 . exact .mul
 exact .bad
theorem gM.of(d:aC.V)(hd:bN 1000 d)(i:Nat):gM (eB (ofV d i)) (ofV d i):=by have :=lF hd i;exact .int A0 A0
theorem aOh(I:name.length<2^63){pv:AV}{ps:List (AV×List aC.V)}(P:AY pv ps)(tI:∀p∈ps,qO p)(X:ps.length<2^63)(d:aC.V)(M C L r1:Int)(H:aA):
 St 5 [.agg (eT name pv M C L r1),.agg (cG d)] H (.ret (.bool true)) H:=by
 have uK:cW [AV.agg (eT name pv M C L r1)]=true:=by simp only[sf,eT,P.free tI]
 refine IM SM yG bQt (Ai rfl) (by simp only[sf,eT,P.free tI,bV]) Zac ?_ H;unfold W5T;dsimp only;have b7:=aBe;have Q:=fun H=>ZD uK rfl (fun H=>Yh I P tI X M C L r1 H) H;have b6:(eT name pv M C L r1).length=6:=rfl;have ld:=oL (aT d);refine aM fun K hK=>?_;refine Wy ?_;apply hK;clear hK K;refine aM fun K hK=>?_
 cases J:(QF (ps.map (·.2))&&(oE name (ps.map (·.2)) M C L r1==0)) with
 |false=>rw[J] at Q;have :=oL b6;refine Wy ?_;refine Rx ?_;rfl
 |true=>
 rw[J] at Q;rw[Ak,Dl] at J;obtain⟨S,hO⟩:=aEb J.2;have WT:=J.2;have af:=bDy (name:=name) P tI S M C L r1;generalize ps.map (·.2)=ls at *;rw[af] at Q b6 ⊢;clear uK P tI X J af;have NJ:=fun H=>ZD (aYl name ls M C L r1 (cG d) (bV d)) rfl (bBx S.2.1 (fun l U=>⟨(S.sz l U).1,(S.sz l U).2.1⟩) d M C L r1) H;have :=oL b6;refine Wy ?_
 cases U:fx (d::ls.flatten) with
 |false=>refine Wy ?_;refine Rx ?_;rfl
 |true=>
 have dq:=Qj.1 U;have a6:∀v∈ls.flatten,NR v:=fun v J=>dq v (As _ J);have hd:bN 1000 d:=zg (dq d Az);have dh:=S.low a6 hd;have Ta:bN 1000 (orV ls):=aPt S a6;have a7:=S.low a6 Ta;have mv:=bMb (name:=name) S hd dh M C L r1;have ck:=bNj I dh (aMq WT dh);have aj:=bNe (name:=name) S M C L r1;have ae:=bNe (name:=name) dh M C L r1;have ev:qJ (xA (aC.neg d) ls)=qJ ls:=by rw[(vB dh).1,(vB S).1,aCs S]
 rw[ev] at ae;have aK:=aNi (show dN (cO (qJ ls)) (qJ ls) from dN.pW _ _);have b1:=aYn (name:=name) S M C L r1;have b0:=aYn (name:=name) dh M C L r1;have aO:=aYn (name:=name) a7 M C L r1;have aN:=aNk (c:=fun i=>eB (FI (xA (aC.neg d) ls) i)) fun i _=>gM.ce (xA (aC.neg d) ls) i;have ov:∀H,St 37 [.agg (cG d)] H (.ret (.agg (c3 fun i=>eB (ofV d i)))) H:=ZD Zae Zaw (rq (v:=d) fun i=>by have :=lF hd i;exact⟨by omega,by omega⟩);have mi:=bRh (gM.ce ls) (gM.of d hd)
 have ec:(fun i=>eB (yS (FI ls i) (ofV d i)))=fun i=>eB (FI (xA (aC.neg d) ls) i):=funext fun i=>by
  have ag:bN (2^12) d:=by simp only[bN] at *;omega
  rw[(aDz S ag dh i).1,(aDz S ag dh i).2]
 rw[ec] at mi;have o7:∀H,St 40 [.int .i64 7] H (.ret (.agg (cQ ((7:Int):Rat)))) H:=ZD rfl (by simp only[sf];exact cS (some _)) (EU (z:=7) A1 A1);have i0:=bGd (name:=name) S (k:=7) A1 M C L r1;have i1:=bGd (name:=name) dh (k:=7) A1 M C L r1
 have iq:∀{ls},Bp ls->∀p,p<9->gM (eB (Li ls (some ((7:Int):Rat)) p)) (Li ls (some ((7:Int):Rat)) p):=fun h p _=>by rw[(FX h (k:=7) A1 p).1];exact .enc ((FX h (k:=7) A1 p).2.fit A1 A1)
 have y:∀H,St 39 [.agg (mC (Li ls (some ((7:Int):Rat)))),.agg (mC (Li (xA (aC.neg d) ls) (some ((7:Int):Rat)))),.agg (c3 fun i=>eB (FI ls i)),.agg (c3 fun i=>eB (ofV d i))] H (.ret (.bool true)) H:=
  ZD (by simp only[sf,sP,dZ fun i _=>cS (FI ls i),dZ fun i _=>cS (ofV d i)]) rfl (kc (iq S) (iq dh) (gM.ce ls) (gM.of d hd) fun i n F A=>bDh S (by simp only[bN] at *;omega) dh F A)
 have og:∀H,St 17 [.agg (bd name ls M C L r1)] H (.ret (.agg (cG (orV ls)))) H:=
  ZD (bdF _ _ _ _ _ _) Zae (aMj S.pok (q:=fun i=>(MB ls i:Rat) / ((4*VB ls:Int):Rat)) (fun i=>⟨(IT S i).1,(IT S i).2.fit A1 A1⟩) (fun i=>by
   have :(orI ls i).natAbs<=1000:=aTs (To (by have :=(vB S).2.2;omega) (XB S a6 i))
   exact Bn this A1) M C L r1)
 have mo:=bMb (name:=name) S Ta a7 M C L r1;have fc:∀H,St 41 [.int .i64 1,.int .i64 2] H (.ret (.agg (eB (rQ (some 1) (some 2))))) H:=ZD rfl (by simp only[sf];exact cS _) (aIj A1 A1);have iH:gM (eB (rQ (some 1) (some 2))) (rQ (some 1) (some 2)):=.mk (.enc A1) (.enc A1);have iA:∀x,gM (eB x) x->gM (eB (Mr x)) (Mr x):=fun x h=>by unfold Mr;split;exact h.neg;exact h.neg.neg
 have ab:∀i H,St 43 [.agg (eB (FI (xA (aC.neg (orV ls)) ls) i))] H (.ret (.agg (eB (Mr (FI (xA (aC.neg (orV ls)) ls) i))))) H:=fun i=>ZD Zat Zat (aQh (gM.ce _ i));have cm:∀i H,St 42 [.agg (eB (Mr (FI (xA (aC.neg (orV ls)) ls) i))),.agg (eB (rQ (some 1) (some 2)))] H (.ret (.int .i64 (SE (Mr (FI (xA (aC.neg (orV ls)) ls) i)) (rQ (some 1) (some 2))))) H:=fun i=>ZD Zat rfl (aQi (iA _ (gM.ce _ i)) iH)
 have aq:∀i,i<3->decide (SE (Mr (FI (xA (aC.neg (orV ls)) ls) i)) (rQ (some 1) (some 2))>0)=false:=fun i F=>by
  rw[(aDz S (by simp only[bN] at *;omega) a7 i).1];have :=aFl ((MB ls i:Rat) / ((4*VB ls:Int):Rat))
  have e:(orV ls).at i=EP ((MB ls i:Rat) / ((4*VB ls:Int):Rat)):=by
   match i,F with
   |0,_=>rfl
   |1,_=>rfl
   |2,_=>rfl
  rw[e];exact Ab A0
 have ad:∀ls,(bd name ls M C L r1).length=6:=fun _=>rfl;have n0:∀ls,(bd name ls M C L r1).getD 0 aB=.str name:=fun _=>rfl;have W:=fun x=>fA x;have l3:∀x:Nat->Option Rat,(c3 fun i=>eB (x i)).length=108:=fun x=>jC fun i _=>W _;clear Q NJ U dq a6 WT S dh a7 hd Ta hO ev ec iq iH iA b6;generalize xA (aC.neg d) ls=l1 at *;generalize xA (aC.neg (orV ls)) ls=B at *;generalize orV ls=o at *;refine Wy ?_;apply hK;clear hK K;generalize hX:(aA.alloc _ _).alloc _=HA;have a0:=Kv (i:=0) hX;have a1:=Kv (i:=1) hX;have O:HA.next=2:=by subst hX;rfl
 have aF:bH HA:=by subst hX;exact((bH.nil _).alloc _).alloc _
 clear hX;refine bW fun f N=>?_;have s:=Kf (i:=2) N;have f3:=Kf (i:=3) N;clear N;have Y:∀a b:List UInt8,a=b->aDu .neq a b=some (.bool false):=fun a b h=>by subst h;simp[aDu]
 refine aM fun K hK=>?_;have :=oL (ad ls);refine Wy ?_;apply hK;clear hK K;generalize hX:aA.set _ 2 _=HB
 replace a0:=Kx (i:=0) hX
 replace a1:=Kx (i:=1) hX
 have a2:=Kv (i:=2) hX;have bn:HB.next=3:=by subst hX;simp only[zI,seval,O]
 have bF:bH HB:=by subst hX;exact(aF.alloc _).set (by simp only[zI,seval,O]) _
 clear hX O aF;refine aM fun K hK=>?_;refine aM fun D cY=>?_;refine Dz ?_;have :=oL (ad l1);refine Ww ?_;have b9:((0:Int) != 0)=false:=rfl;have :=Y name name rfl;refine Ww ?_;apply cY;clear cY D;refine Tz ?_;apply hK;clear hK K;refine bW fun g t=>?_;have g2:=Kg (i:=2) t;have g3:=Kg (i:=3) t;have w:=Kf (i:=5) t;clear t s f3 ck aj ae aK mv;refine aM fun K hK=>?_;refine fT 2 A1 bF.at2 fun H1 n1 T=>?_;have :=oL rO;refine Wy ?_;apply hK;clear hK K;generalize hX:aA.set _ 4 _=HC;have c0:=Kx (i:=0) hX;have m:=Kx (i:=2) hX;have b2:=Kv (i:=3) hX;have c4:=Kv (i:=4) hX;have cn:HC.next=5:=by subst hX;simp only[zI,seval,n1,bn]
 have cF:bH HC:=by
  subst hX;have ar:bH H1:=fun q hq=>by rw[T q];exact bF q A0
  exact(((ar.set A0 _).set ZaY _).set ZaY _).set ZaY _
 clear hX a0 a1 a2 bn bF n1 T H1;refine bW fun f N=>?_;have s:=Kg (i:=2) N;have j:=Kg (i:=5) N;have f7:=Kf (i:=7) N;have f8:=Kf (i:=8) N;clear N g2 g3 w b1 ov;refine aM fun K hK=>?_;refine aM fun D cY=>?_;refine Dz ?_;have lm:∀x,(mC x).length=3:=fun _=>rfl;have :=oL (l3 (FI ls));have :=oL (l3 (ofV d));refine Ww ?_;apply cY;clear cY D;refine Tz ?_;apply hK;clear hK K;refine bW fun g t=>?_;have g2:=Kg (i:=2) t;clear t s j f7 f8 b0 mi i0 i1 y o7 aN;refine aM fun K hK=>?_;refine fT 1 A1 cF.vm fun H1 n1 T=>?_;have b3:=oL (aT o);refine Wy ?_;apply hK;clear hK K;generalize hX:aA.set _ 5 _=HD;have d5:=Kv (i:=5) hX;have dn:HD.next=6:=by subst hX;simp only[zI,seval,n1,cn]
 clear hX c0 m b2 c4 cn cF n1 T H1;refine bW fun f N=>?_;have f9:=Kf (i:=9) N;have aE:=Kf (i:=10) N;clear N g2 og mo;have lh:=oL (W (rQ (some 1) (some 2)));refine aM fun K hK=>?_;have :=oL gT;refine Wy ?_;apply hK;clear hK K;generalize hX:aA.set _ 6 _=HE
 replace d5:=Kx (i:=5) hX
 have d6:=Kv (i:=6) hX;have en:7<=HE.next:=by subst hX;simp only[zI,seval,dn]
 clear hX dn;refine bW fun g t=>?_;have g9:=Kg (i:=9) t;have az:=Kg (i:=10) t;have ay:=Kf (i:=11) t;clear t f9 aE fc;refine aM fun K hK=>?_;refine aM fun D cY=>?_;have :=oL (ad B);refine Ww ?_;apply cY;clear cY D aO;have ak:∀i,i<3->(eB (FI B i)).length=36:=fun i _=>W _;refine cM [] (fun _ _ H'=>H'.get 6=some (.cells (eB (rQ (some 1) (some 2))) false)/\7<=H'.next) 3 A1 rfl A1 ?_ ?_ ?_ ?_
 . exact zq
 . exact⟨d6,en⟩
 . rintro i f1 H1 Z E T ⟨R,A⟩;have b4:f1 11=.ref 6 0:=by rw[E 11 rfl];simp only[zB,seval];exact ay
   have al:f1 82=.agg (c3 fun i=>eB (FI B i)):=E 82 rfl;have ci:=oS ak Z;have ba:=ab i;have b5:=cm i;have yp:=aq i Z;refine aJ ?_;refine aM fun K hK=>?_;simp only[↓zP,zG,seval,zI,al,T,aD,Z,l3,ci,W,oL gT,show i*36+36<=108 by omega];apply hK;clear hK K;generalize hX:aA.set _ _ _=H2;have u6:=Ku hX R;have ur:=Kz hX;have un:7<=H2.next:=(by subst hX;simp only[zI,seval];omega);clear hX;generalize H1.next=r at *;refine aM fun K hK=>?_;refine Dz ?_;have :=oL (W (FI B i));refine Wy ?_;apply hK;clear hK K;refine Tz ?_;exact⟨u6,un⟩
 rintro f1 H1 E _;have u:f1 10=.int .i64 0:=by rw[E 10 rfl];simp only[zB,seval];exact az
 refine Tx ?_;apply hK;clear hK K;refine aM fun K hK=>?_;refine Wy ?_;apply hK;clear hK K;refine Tx ?_;exact ZaD
end Go.Proofs.YtogfcjbgeebfkaaGreatDoor
