/-
  Part of the proof of statement 13
-/
import Derived.Test.YtogfcjbgeebfkaaGreatDoorB13
import Derived.Test.YtogfcjbgeebfkaaGreatDoorB14
import Derived.Test.YtogfcjbgeebfkaaGreatDoorB07
import Derived.Test.YtogfcjbgeebfkaaGreatDoorB06
import Derived.Test.YtogfcjbgeebfkaaGreatDoorB12
import Derived.Test.YtogfcjbgeebfkaaGreatDoorB05
import Derived.Test.YtogfcjbgeebfkaaGreatDoorProg
import Derived.Shelf.SlSortCmp.NoneTotal
import Derived.Ground.SlsfProg
set_option linter.unusedVariables false
set_option linter.unusedSimpArgs false
set_option maxRecDepth 100000
set_option maxHeartbeats 16000000
namespace Go.Proofs
open Go.Shelf
def Tryz.aAq:Go.Shelf.Ren:=⟨fun |6=>248|15=>288|14=>287|28=>271|29=>321|20=>313|21=>314|22=>315|23=>316|24=>317|25=>318|26=>319|27=>320|46=>345|47=>346|48=>347|49=>348|50=>349|57=>361|n=>n,fun |22=>199|24=>202|25=>252|3=>3|39=>151|0=>0|53=>26|55=>149|4=>4|46=>311|45=>310|50=>164|5=>5|9=>9|66=>329|70=>333|76=>347|77=>348|n=>n,fun |n=>n⟩
theorem Tryz.aIx:Go.Proofs.SlLaysF0.n6 Tryz.prog Tryz.aAq:={
 mixed:=by kernel_rfl
 f6:=⟨Tryz.f248.name,by decide,Tryz.func248.trans (Al some (by kernel_rfl))⟩
 f14:=⟨Tryz.f287.name,by decide,Tryz.func287.trans (Al some (by kernel_rfl))⟩
 f15:=Tryz.func288.trans (Al some (by kernel_rfl))
 f20:=⟨Tryz.f313.name,by decide,Tryz.func313.trans (Al some (by kernel_rfl))⟩
 f21:=⟨Tryz.f314.name,by decide,Tryz.func314.trans (Al some (by kernel_rfl))⟩
 f22:=⟨Tryz.f315.name,by decide,Tryz.func315.trans (Al some (by kernel_rfl))⟩
 f23:=⟨Tryz.f316.name,by decide,Tryz.func316.trans (Al some (by kernel_rfl))⟩
 f24:=⟨Tryz.f317.name,by decide,Tryz.func317.trans (Al some (by kernel_rfl))⟩
 f25:=⟨Tryz.f318.name,by decide,Tryz.func318.trans (Al some (by kernel_rfl))⟩
 f26:=⟨Tryz.f319.name,by decide,Tryz.func319.trans (Al some (by kernel_rfl))⟩
 f27:=⟨Tryz.f320.name,by decide,Tryz.func320.trans (Al some (by kernel_rfl))⟩
 f28:=Tryz.func271.trans (Al some (by kernel_rfl))
 f29:=Tryz.func321.trans (Al some (by kernel_rfl))
 f46:=⟨Tryz.f345.name,by decide,Tryz.func345.trans (Al some (by kernel_rfl))⟩
 f47:=Tryz.func346.trans (Al some (by kernel_rfl))
 f48:=Tryz.func347.trans (Al some (by kernel_rfl))
 f49:=⟨Tryz.f348.name,by decide,Tryz.func348.trans (Al some (by kernel_rfl))⟩
 f50:=⟨Tryz.f349.name,by decide,Tryz.func349.trans (Al some (by kernel_rfl))⟩
 f57:=⟨Tryz.f361.name,by decide,Tryz.func361.trans (Al some (by kernel_rfl))⟩
 t0:=Tryz.underlying0
 a0:=Tryz.isAgg0
 z0:=Tryz.sizeOf0
 v0:=Tryz.zeroValue0
 t3:=Tryz.underlying3
 a3:=Tryz.isAgg3
 z3:=Tryz.sizeOf3
 v3:=Tryz.zeroValue3
 t4:=Tryz.underlying4
 a4:=Tryz.isAgg4
 z4:=Tryz.sizeOf4
 v4:=Tryz.zeroValue4
 t5:=Tryz.underlying5
 a5:=Tryz.isAgg5
 z5:=Tryz.sizeOf5
 v5:=Tryz.zeroValue5
 t9:=Tryz.underlying9
 a9:=Tryz.isAgg9
 z9:=Tryz.sizeOf9
 v9:=Tryz.zeroValue9
 t22:=Tryz.underlying199
 a22:=Tryz.isAgg199
 z22:=Tryz.sizeOf199
 v22:=Tryz.zeroValue199
 t25:=Tryz.underlying252
 a25:=Tryz.isAgg252
 z25:=Tryz.sizeOf252
 v25:=Tryz.zeroValue252
 t39:=Tryz.underlying151
 a39:=Tryz.isAgg151
 z39:=Tryz.sizeOf151
 v39:=Tryz.zeroValue151
 t45:=Tryz.underlying310
 a45:=Tryz.isAgg310
 z45:=Tryz.sizeOf310
 v45:=Tryz.zeroValue310
 t46:=Tryz.underlying311
 a46:=Tryz.isAgg311
 z46:=Tryz.sizeOf311
 v46:=Tryz.zeroValue311
 t50:=Tryz.underlying164
 a50:=Tryz.isAgg164
 z50:=Tryz.sizeOf164
 v50:=Tryz.zeroValue164
 t53:=Tryz.underlying26
 a53:=Tryz.isAgg26
 z53:=Tryz.sizeOf26
 v53:=Tryz.zeroValue26
 t55:=Tryz.underlying149
 a55:=Tryz.isAgg149
 z55:=Tryz.sizeOf149
 v55:=Tryz.zeroValue149
 t66:=Tryz.underlying329
 a66:=Tryz.isAgg329
 z66:=Tryz.sizeOf329
 v66:=Tryz.zeroValue329
 t70:=Tryz.underlying333
 a70:=Tryz.isAgg333
 z70:=Tryz.sizeOf333
 v70:=Tryz.zeroValue333
 t76:=Tryz.underlying347
 a76:=Tryz.isAgg347
 z76:=Tryz.sizeOf347
 v76:=Tryz.zeroValue347
 t77:=Tryz.underlying348
 a77:=Tryz.isAgg348
 z77:=Tryz.sizeOf348
 v77:=Tryz.zeroValue348}
def Tryz.aAp:Go.Shelf.Ren:=⟨fun |6=>284|15=>288|14=>312|28=>271|29=>321|20=>337|21=>338|22=>339|23=>340|24=>341|25=>342|26=>343|27=>344|46=>358|47=>346|48=>347|49=>359|50=>360|57=>372|n=>n,fun |22=>194|24=>23|25=>285|3=>3|39=>151|0=>0|53=>26|55=>149|4=>4|46=>311|45=>310|50=>164|5=>5|9=>9|66=>329|70=>333|76=>347|77=>348|n=>n,fun |n=>n⟩
theorem Tryz.aTh:Go.Proofs.SlLaysF0.n6 Tryz.prog Tryz.aAp:={
 mixed:=by kernel_rfl
 f6:=⟨Tryz.f284.name,by decide,Tryz.func284.trans (Al some (by kernel_rfl))⟩
 f14:=⟨Tryz.f312.name,by decide,Tryz.func312.trans (Al some (by kernel_rfl))⟩
 f15:=Tryz.func288.trans (Al some (by kernel_rfl))
 f20:=⟨Tryz.f337.name,by decide,Tryz.func337.trans (Al some (by kernel_rfl))⟩
 f21:=⟨Tryz.f338.name,by decide,Tryz.func338.trans (Al some (by kernel_rfl))⟩
 f22:=⟨Tryz.f339.name,by decide,Tryz.func339.trans (Al some (by kernel_rfl))⟩
 f23:=⟨Tryz.f340.name,by decide,Tryz.func340.trans (Al some (by kernel_rfl))⟩
 f24:=⟨Tryz.f341.name,by decide,Tryz.func341.trans (Al some (by kernel_rfl))⟩
 f25:=⟨Tryz.f342.name,by decide,Tryz.func342.trans (Al some (by kernel_rfl))⟩
 f26:=⟨Tryz.f343.name,by decide,Tryz.func343.trans (Al some (by kernel_rfl))⟩
 f27:=⟨Tryz.f344.name,by decide,Tryz.func344.trans (Al some (by kernel_rfl))⟩
 f28:=Tryz.func271.trans (Al some (by kernel_rfl))
 f29:=Tryz.func321.trans (Al some (by kernel_rfl))
 f46:=⟨Tryz.f358.name,by decide,Tryz.func358.trans (Al some (by kernel_rfl))⟩
 f47:=Tryz.func346.trans (Al some (by kernel_rfl))
 f48:=Tryz.func347.trans (Al some (by kernel_rfl))
 f49:=⟨Tryz.f359.name,by decide,Tryz.func359.trans (Al some (by kernel_rfl))⟩
 f50:=⟨Tryz.f360.name,by decide,Tryz.func360.trans (Al some (by kernel_rfl))⟩
 f57:=⟨Tryz.f372.name,by decide,Tryz.func372.trans (Al some (by kernel_rfl))⟩
 t0:=Tryz.underlying0
 a0:=Tryz.isAgg0
 z0:=Tryz.sizeOf0
 v0:=Tryz.zeroValue0
 t3:=Tryz.underlying3
 a3:=Tryz.isAgg3
 z3:=Tryz.sizeOf3
 v3:=Tryz.zeroValue3
 t4:=Tryz.underlying4
 a4:=Tryz.isAgg4
 z4:=Tryz.sizeOf4
 v4:=Tryz.zeroValue4
 t5:=Tryz.underlying5
 a5:=Tryz.isAgg5
 z5:=Tryz.sizeOf5
 v5:=Tryz.zeroValue5
 t9:=Tryz.underlying9
 a9:=Tryz.isAgg9
 z9:=Tryz.sizeOf9
 v9:=Tryz.zeroValue9
 t22:=Tryz.underlying194
 a22:=Tryz.isAgg194
 z22:=Tryz.sizeOf194
 v22:=Tryz.zeroValue194
 t25:=Tryz.underlying285
 a25:=Tryz.isAgg285
 z25:=Tryz.sizeOf285
 v25:=Tryz.zeroValue285
 t39:=Tryz.underlying151
 a39:=Tryz.isAgg151
 z39:=Tryz.sizeOf151
 v39:=Tryz.zeroValue151
 t45:=Tryz.underlying310
 a45:=Tryz.isAgg310
 z45:=Tryz.sizeOf310
 v45:=Tryz.zeroValue310
 t46:=Tryz.underlying311
 a46:=Tryz.isAgg311
 z46:=Tryz.sizeOf311
 v46:=Tryz.zeroValue311
 t50:=Tryz.underlying164
 a50:=Tryz.isAgg164
 z50:=Tryz.sizeOf164
 v50:=Tryz.zeroValue164
 t53:=Tryz.underlying26
 a53:=Tryz.isAgg26
 z53:=Tryz.sizeOf26
 v53:=Tryz.zeroValue26
 t55:=Tryz.underlying149
 a55:=Tryz.isAgg149
 z55:=Tryz.sizeOf149
 v55:=Tryz.zeroValue149
 t66:=Tryz.underlying329
 a66:=Tryz.isAgg329
 z66:=Tryz.sizeOf329
 v66:=Tryz.zeroValue329
 t70:=Tryz.underlying333
 a70:=Tryz.isAgg333
 z70:=Tryz.sizeOf333
 v70:=Tryz.zeroValue333
 t76:=Tryz.underlying347
 a76:=Tryz.isAgg347
 z76:=Tryz.sizeOf347
 v76:=Tryz.zeroValue347
 t77:=Tryz.underlying348
 a77:=Tryz.isAgg348
 z77:=Tryz.sizeOf348
 v77:=Tryz.zeroValue348}
def Tryz.aAr:Go.Shelf.Ren:=⟨fun |6=>323|15=>288|14=>351|28=>271|29=>321|20=>362|21=>363|22=>364|23=>365|24=>366|25=>367|26=>368|27=>369|46=>373|47=>346|48=>347|49=>374|50=>375|57=>376|n=>n,fun |22=>63|24=>33|25=>239|3=>3|39=>151|0=>0|53=>26|55=>149|4=>4|46=>311|45=>310|50=>164|5=>5|9=>9|66=>329|70=>333|76=>347|77=>348|n=>n,fun |n=>n⟩
theorem Tryz.aIz:Go.Proofs.SlLaysF0.n6 Tryz.prog Tryz.aAr:={
 mixed:=by kernel_rfl
 f6:=⟨Tryz.f323.name,by decide,Tryz.func323.trans (Al some (by kernel_rfl))⟩
 f14:=⟨Tryz.f351.name,by decide,Tryz.func351.trans (Al some (by kernel_rfl))⟩
 f15:=Tryz.func288.trans (Al some (by kernel_rfl))
 f20:=⟨Tryz.f362.name,by decide,Tryz.func362.trans (Al some (by kernel_rfl))⟩
 f21:=⟨Tryz.f363.name,by decide,Tryz.func363.trans (Al some (by kernel_rfl))⟩
 f22:=⟨Tryz.f364.name,by decide,Tryz.func364.trans (Al some (by kernel_rfl))⟩
 f23:=⟨Tryz.f365.name,by decide,Tryz.func365.trans (Al some (by kernel_rfl))⟩
 f24:=⟨Tryz.f366.name,by decide,Tryz.func366.trans (Al some (by kernel_rfl))⟩
 f25:=⟨Tryz.f367.name,by decide,Tryz.func367.trans (Al some (by kernel_rfl))⟩
 f26:=⟨Tryz.f368.name,by decide,Tryz.func368.trans (Al some (by kernel_rfl))⟩
 f27:=⟨Tryz.f369.name,by decide,Tryz.func369.trans (Al some (by kernel_rfl))⟩
 f28:=Tryz.func271.trans (Al some (by kernel_rfl))
 f29:=Tryz.func321.trans (Al some (by kernel_rfl))
 f46:=⟨Tryz.f373.name,by decide,Tryz.func373.trans (Al some (by kernel_rfl))⟩
 f47:=Tryz.func346.trans (Al some (by kernel_rfl))
 f48:=Tryz.func347.trans (Al some (by kernel_rfl))
 f49:=⟨Tryz.f374.name,by decide,Tryz.func374.trans (Al some (by kernel_rfl))⟩
 f50:=⟨Tryz.f375.name,by decide,Tryz.func375.trans (Al some (by kernel_rfl))⟩
 f57:=⟨Tryz.f376.name,by decide,Tryz.func376.trans (Al some (by kernel_rfl))⟩
 t0:=Tryz.underlying0
 a0:=Tryz.isAgg0
 z0:=Tryz.sizeOf0
 v0:=Tryz.zeroValue0
 t3:=Tryz.underlying3
 a3:=Tryz.isAgg3
 z3:=Tryz.sizeOf3
 v3:=Tryz.zeroValue3
 t4:=Tryz.underlying4
 a4:=Tryz.isAgg4
 z4:=Tryz.sizeOf4
 v4:=Tryz.zeroValue4
 t5:=Tryz.underlying5
 a5:=Tryz.isAgg5
 z5:=Tryz.sizeOf5
 v5:=Tryz.zeroValue5
 t9:=Tryz.underlying9
 a9:=Tryz.isAgg9
 z9:=Tryz.sizeOf9
 v9:=Tryz.zeroValue9
 t22:=Tryz.underlying63
 a22:=Tryz.isAgg63
 z22:=Tryz.sizeOf63
 v22:=Tryz.zeroValue63
 t25:=Tryz.underlying239
 a25:=Tryz.isAgg239
 z25:=Tryz.sizeOf239
 v25:=Tryz.zeroValue239
 t39:=Tryz.underlying151
 a39:=Tryz.isAgg151
 z39:=Tryz.sizeOf151
 v39:=Tryz.zeroValue151
 t45:=Tryz.underlying310
 a45:=Tryz.isAgg310
 z45:=Tryz.sizeOf310
 v45:=Tryz.zeroValue310
 t46:=Tryz.underlying311
 a46:=Tryz.isAgg311
 z46:=Tryz.sizeOf311
 v46:=Tryz.zeroValue311
 t50:=Tryz.underlying164
 a50:=Tryz.isAgg164
 z50:=Tryz.sizeOf164
 v50:=Tryz.zeroValue164
 t53:=Tryz.underlying26
 a53:=Tryz.isAgg26
 z53:=Tryz.sizeOf26
 v53:=Tryz.zeroValue26
 t55:=Tryz.underlying149
 a55:=Tryz.isAgg149
 z55:=Tryz.sizeOf149
 v55:=Tryz.zeroValue149
 t66:=Tryz.underlying329
 a66:=Tryz.isAgg329
 z66:=Tryz.sizeOf329
 v66:=Tryz.zeroValue329
 t70:=Tryz.underlying333
 a70:=Tryz.isAgg333
 z70:=Tryz.sizeOf333
 v70:=Tryz.zeroValue333
 t76:=Tryz.underlying347
 a76:=Tryz.isAgg347
 z76:=Tryz.sizeOf347
 v76:=Tryz.zeroValue347
 t77:=Tryz.underlying348
 a77:=Tryz.isAgg348
 z77:=Tryz.sizeOf348
 v77:=Tryz.zeroValue348}
end Go.Proofs
namespace Go.Proofs.YtogfcjbgeebfkaaGreatDoor
open Go Go.Av Go.aH
attribute [local congr] aZ aQ aR aL bD aU aS aG bE
attribute [local irreducible] FC bS eE
theorem EB(p q:aH.V×Int):YK p q<0↔jC p.1 q.1:=by
 unfold YK orZ xJ jC
 grind
def plV(q:aH.V×Int):ES 4:=⟨[q.1.x,q.1.y,q.1.z,q.2],rfl⟩
def unV(x:ES 4):aH.V×Int:=(⟨x.1.getD 0 0,x.1.getD 1 0,x.1.getD 2 0⟩,x.1.getD 3 0)
theorem aQi(q:aH.V×Int):unV (plV q)=q:=rfl
theorem qd(x:ES 4):plV (unV x)=x:=by
 obtain⟨l,U⟩:=x
 match l,U with
 |[a,b,c,d],_=>rfl
theorem aDy(q:aH.V×Int):XG (plV q)=nI q:=rfl
theorem RD:∀S:List (aH.V×Int),(oN (S.map plV)).map (AV.int .i64)=(S.map nI).flatten
 |[]=>rfl
 |q::S=>by have :=RD S;simp only[oN,Bw,El,Cg,Cb] at this ⊢;rw[this];rfl
theorem bMw:Go.Sort.SWO (Go.Proofs.ltOf fun x y:ES 4=>YK (unV x) (unV y)) where
 irrefl x:=by simp only[Go.Proofs.ltOf,EB,Cd];exact jC.nv _
 trans x y z h1 h2:=by simp only[Go.Proofs.ltOf,EB,Bs] at *;exact jC.trans h1 h2
 ntrans x y z h1 h2:=by grind[Go.Proofs.ltOf,EB,decide_eq_false_iff_not,jC]
def wR(K:List (aH.V×Int)):List (AV×AV):=K.map fun q=>(.agg (nI q),.bool true)
theorem wc(p q:aH.V×Int):cE [.i,.i,.i,.i] (nI p) (nI q)=some (decide (p=q)):=by
 obtain⟨⟨a,b,c⟩,d⟩:=p;obtain⟨⟨s,k,I⟩,d'⟩:=q;simp only[nI,cE,if_true,Cq,An,V.mk.injEq,Ig];congr 1
 grind
theorem yt{N:List Nat}(h:N.Nodup){i j:Nat}(F:i<N.length)(Y:j<N.length)(e:N.getD i 0=N.getD j 0):i=j:=by
 have m:=Ga.1 h
 grind
theorem lg(q:aH.V×Int):∀(K:List (aH.V×Int)) (n:Nat),(q∈K->∃i,nS (.f [.i,.i,.i,.i]) (.agg (nI q)) (wR K) n=some (some (i,.bool true)))/\(q∉K->nS (.f [.i,.i,.i,.i]) (.agg (nI q)) (wR K) n=some none)
 |[],n=>⟨fun h=>(nomatch h),fun _=>rfl⟩
 |x::K,n=>by
  obtain⟨O,Z⟩:=lg q K (n+1);simp only[wR,Bw,nS,sameKey,wc] at O Z ⊢
  grind
theorem KP(v:aH.V):cE [.i,.i,.i] (cS v) [.int .i64 0,.int .i64 0,.int .i64 0]=some (decide (v=V0)):=by
 obtain⟨a,b,c⟩:=v;simp only[cS,cE,if_true,Cq,V0,V.mk.injEq,Ig];congr 1
 grind
variable{l:List aH.V}
theorem Ln{q:aH.V×Int}:GJ l q=true↔(∀k,k<l.length->aH.dot q.1 (l.getD k V0)<=q.2)/\∃k,k<l.length/\aH.dot q.1 (l.getD k V0)<q.2:=by
 have d:∀k (h:k<l.length),l.getD k V0=l[k]:=fun k h=>by grind
 simp only[GJ,Ak,Bi,Bs,Ct,<-Fx,Dr];constructor
 . rintro⟨O,Z⟩;refine Co fun R=>Z fun v J=>?_;obtain⟨k,E,rfl⟩:=Dl J
   grind
 rintro⟨O,k,E,Z⟩;refine⟨fun v J=>?_,fun h=>?_⟩
 . obtain⟨k,E,rfl⟩:=Dl J
   grind
 grind
structure Found (l:List aH.V) (i j k:Nat) (K:List (aH.V×Int)) (H:aB):Prop where
 nd:K.Nodup
 is:∀q∈K,oR (fun i=>l.getD i V0) l.length q.1 q.2
 tr:tM (fun i=>l.getD i V0) l.length i j k K
 mp:H.get 0=some (.map (wR K))
 nx:1<=H.next
 fr:aY H
variable{i:Nat}{K:List (aH.V×Int)}{H H':aB}
theorem Found.heap{j k:Nat}(h:Found l i j k K H)(G:H'.get 0=H.get 0)(A:H.next<=H'.next)(N:aY H'):Found l i j k K H':=
 ⟨h.nd,h.is,h.tr,G.trans h.mp,Aw h.nx A,N⟩
theorem Found.to{j k I Q p:Nat}(h:Found l i j k K H)(W:tM (fun i=>l.getD i V0) l.length I Q p K):Found l I Q p K H:=⟨h.nd,h.is,W,h.mp,h.nx,h.fr⟩
theorem VY:CI Tryz.prog 248:=⟨_,Tryz.func248,by rfl,by rfl⟩
theorem aIy(d:List (ES 4))(hd:d.length<4611686018427387904):
 ∃d':List (ES 4),d'.Perm d/\(d'.Pairwise fun a b=>¬YK (unV b) (unV a)<0)/\∀(H:aB) (id:Nat) (r:Bool),H.get id=some (.cells ((oN d).map (AV.int .i64)) r)->
  Sg 248 [.sl id 4 0 d.length d.length,.func (.func 249) [] []] H (.ret (.iV [])) (H.set id (.cells ((oN d').map (AV.int .i64)) r)):=
 ID (fun _=>rfl) Tryz.aIx A1 Tryz.isAgg202 Tryz.sizeOf202 rfl VY (YL (V0,0) (V0,0) ⟨0,.nil⟩).1 bMw (fun x y=>by
  have :=YL (unV x) (unV y) ⟨0,.nil⟩
  grind[aDy,qd]) d hd
variable{tag:Nat}
theorem Tc(ht:Nat.blt tag 2=true){l:List aH.V}{M:Nat}(U:∀v∈l,bT M v)(hM:M<=2^18)(Q:l.length<=64){S:List (aH.V×Int)}(hS:pS (fun i=>l.getD i V0) l.length S)(H:aB):
 Sg 191 [.bK tag 3 (bU l)] H (.ret (lT 4 (S.map nI))) H:=by
 refine fA fit dZ aSi (Ab rfl) ZbC ?_ H;unfold aKw;dsimp only;have dB:∀k (h:k<l.length),l.getD k V0=l[k]:=fun k h=>by simp[List.getD,h]
 refine bP ?_;refine Tz ?_;refine fQ ?_;refine Ty ?_;refine bQ ?_;refine aP fun K hK=>?_;refine bP ?_;refine Ty ?_;refine bQ ?_;refine bR [] (fun i _ H=>∃K,Found l i 0 0 K H) l.length A0 A1 ?_ ?_ ?_ ?_ ?_
 . exact zq
 . exact Zbw
 . refine⟨[],List.nodup_nil,fun q D=>(nomatch D),tM.zero,?_,Ad _,(aY.nil 0).alloc _⟩;rfl
 . rintro i f H hi E e1 ⟨F,u⟩;refine aM ?_;refine bP ?_;simp only[↓zP,zG,seval,e1];refine fQ ?_;refine Tz ?_;refine bQ ?_;refine bR [] (fun j _ H=>∃K,Found l i j 0 K H) i A0 A1 ?_ ?_ ?_ ?_ ?_
   . exact zq
   . exact zq
   . exact⟨F,u⟩
   . clear u F;rintro j f2 H2 Y fS e2 ⟨F,u⟩;refine aM ?_;refine bP ?_;simp only[↓zP,zG,seval,e2];refine fQ ?_;refine Tz ?_;refine bQ ?_;refine bR [] (fun k _ H=>∃K,Found l i j k K H) j A0 A1 ?_ ?_ ?_ ?_ ?_
     . exact zq
     . exact zq
     . exact⟨F,u⟩
     . clear u F;rintro k f3 W bz n e3 ⟨F,u⟩;have TO:j<l.length:=A0;have CD:k<l.length:=A0;have gi:=cG hi;have gj:=cG TO;have gk:=cG CD;have o:=U _ (Ag hi);have nj:=U _ (Ag TO);have nk:=U _ (Ag CD)
       have vY:MD l[i] l[j] l[k]=fW (fun i=>l.getD i V0) i j k:=by simp only[MD,fW,vec,dB i hi,dB j TO,dB k CD]
       refine aM ?_;refine bP ?_;simp only[↓zP,zG,seval,e3];refine fQ ?_;refine fZ 1 A1 u.fr.at1 fun H1 n1 ak=>?_;have cU:¬(0=W.next):=(by have :=u.nx;omega);simp only[↓zP,zJ,seval,zD,n 0 rfl,n 4 rfl,n 5 rfl,fS 0 rfl,fS 4 rfl,E 0 rfl,aI,aX,hi,TO,CD,gi,gj,gk,oL (aW l[i]),oL (aW l[j]),oL (aW l[k])];refine gV (jv o nj nk hM _) ?_;rw[vY]
       have ag:bT (2*((M+M)*(M+M))) (fW (fun i=>l.getD i V0) i j k).1:=by rw[<-vY];exact uE (iM (gT nj o) (gT nk o))
       have bA:(fW (fun i=>l.getD i V0) i j k).2.natAbs<=3*(2*((M+M)*(M+M))*M):=by rw[<-vY];exact nR (uE (iM (gT nj o) (gT nk o))) o
       have bj:∀q∈jM (fun i=>l.getD i V0) i j k,GJ l q=true->oR (fun i=>l.getD i V0) l.length q.1 q.2:=fun q D ho=>AU hi TO CD D (Ln.1 ho).1 (Ln.1 ho).2;have bF:(M+M)*(M+M)<=2^19*2^19:=Az A0 A0;have c6:2*((M+M)*(M+M))*M<=2^39*2^18:=Az A0 A0;have c0:2*((M+M)*(M+M))<=2^39:=by omega
       have Pz:jM (fun i=>l.getD i V0) i j k=if(fW (fun i=>l.getD i V0) i j k).1=V0 then [] else [fW (fun i=>l.getD i V0) i j k,(aH.neg (fW (fun i=>l.getD i V0) i j k).1,-(fW (fun i=>l.getD i V0) i j k).2)]:=rfl
       generalize fW (fun i=>l.getD i V0) i j k=T at *;generalize bO:2*((M+M)*(M+M))=B at *;have p4:(nI T).length=4:=rfl;have P:(nI T).take 3=cS T.1:=rfl;have p1:(nI T).getD 3 aC=.int .i64 T.2:=rfl;simp only[↓zP,zJ,seval,zD,n1,oL p4];refine bQ ?_;generalize hX:(H1.set W.next _).set W.next _=G;have b5:aY H1:=fun j Y=>by rw[ak];exact u.fr j A0
       have af:Found l i j k F G:=u.heap (by subst hX;rw[aB.aD,if_neg cU,aB.aD,if_neg cU,ak]) Zbx
        (by subst hX;exact(b5.set A0 _).set Zaw _)
       have g7:G.get W.next=some (.cells (nI T) false):=(by subst hX;simp only[seval,zI]);have b7:W.next<G.next:=Zbx;clear hX ak n1 b5;clear u;generalize W.next=r at *;refine aP fun L dJ=>?_;simp only[↓zP,zJ,seval,g7,oL p4,P,KP];refine⟨fun hz=>?_,fun hz=>?_⟩
       . refine⟨F,af.to (af.tr.step (fun q h=>h) fun q D=>?_)⟩;rw[Pz,if_pos hz] at D;cases D
       apply dJ;clear dJ L;rw[if_neg hz] at Pz;have wn:IntKind.i64.wrap (0 -T.2)= -T.2:=(gU (B:=3*(B*M)) A0 A0).trans A0;have bt:[AV.int .i64 (aH.neg T.1).x,.int .i64 (aH.neg T.1).y,.int .i64 (aH.neg T.1).z,.int .i64 (-T.2)]=nI (aH.neg T.1,-T.2):=rfl;refine bP ?_;refine Dz ?_;simp only[↓zP,zJ,seval,zD,g7,oL p4,P];refine gV (rv ag A0 _) ?_;simp only[↓zP,zJ,seval,zD,g7,oL p4,p1,wn,cS,bt,show(nI (aH.neg T.1,-T.2)).length=4 from rfl];refine bQ ?_
       have b6:∀q∈jM (fun i=>l.getD i V0) i j k,bT B q.1:=fun q D=>by
        rw[Pz] at D;simp only[Ba,Cn,Fg] at D
        rcases D with rfl|rfl
        . exact ag
        exact Lh ag
       have TP:[nI T,nI (aH.neg T.1,-T.2)]=(jM (fun i=>l.getD i V0) i j k).map nI:=(by rw[Pz];rfl);rw[TP];have QB:(jM (fun i=>l.getD i V0) i j k).length=2:=(by rw[Pz];rfl);generalize Oi:jM (fun i=>l.getD i V0) i j k=cs at *;refine bR [] (fun s _ H=>∃K,Found l i j k K H/\∀q∈cs.take s,oR (fun i=>l.getD i V0) l.length q.1 q.2->q∈K) 2 A1 A1 ?_ ?_ ?_ ?_ ?_
       . exact zq
       . exact zq
       . exact⟨F,af,fun q D=>(by simp at D)⟩
       . clear af F g7 b7 G;rintro s f4 G hs ON e4 ⟨F,u,Xg⟩;have a7:s<cs.length:=A0;have aO:(cs.map nI).getD s []=nI cs[s]:=fT a7;have az:=Ag a7;have an:(nI cs[s]).length=4:=rfl;have DK:=u.nx;have cU:¬(0=G.next):=A0;have tJ:=fe ht U A0 (b6 _ az) A0
         have aq:∀q,q∈cs.take (s+1)->q∈cs.take s\/q=cs[s]:=fun q D=>by
          rw[Ao,Ar] at D
          rcases D with h|h
          . exact .inl h
          simp[a7] at h;exact .inr h
         have br:=bj _ az;generalize cs[s]=q at *;have Nj:=lg q F 0;have ab:=u.mp;have b4:∀H5:aB,H5.get 0=G.get 0->H5.next=G.next+1->aY H5->Found l i j k F H5:=fun H5 O Z h3=>u.heap O A0 h3;refine aM ?_;by_cases iP:q∈F
         . obtain⟨ix,d⟩:=Nj.1 iP;simp only[↓zP,zJ,seval,e4,ON 51 rfl,ON 3 rfl,n 3 rfl,fS 3 rfl,E 3 rfl,aI,Ah,a7,aO,oL an,cU,QQ,Gy,ab,d];refine⟨F,b4 _ ?_ ?_ ?_,fun x C WL=>?_⟩
           . rw[aB.aD,if_neg cU,aB.aJ,if_neg cU]
           . simp only[aB.bB,aB.bJ]
           . exact(u.fr.alloc _).set A3 _
           rcases aq x C with h|rfl
           . exact Xg x h WL
           exact iP
         have d:=Nj.2 iP;simp only[↓zP,zJ,seval,e4,ON 51 rfl,ON 3 rfl,ON 0 rfl,n 3 rfl,n 0 rfl,fS 3 rfl,fS 0 rfl,E 3 rfl,E 0 rfl,aI,Ah,a7,aO,oL an,cU,QQ,Gy,ab,d];refine eI (tJ _) ?_
         cases X:GJ l q with
         |false=>
          refine Tz ?_;refine⟨F,b4 _ ?_ ?_ ?_,fun x C WL=>?_⟩
          . rw[aB.aD,if_neg cU,aB.aJ,if_neg cU]
          . simp only[aB.bB,aB.bJ]
          . exact(u.fr.alloc _).set A3 _
          rcases aq x C with h|rfl
          . exact Xg x h WL
          rw[Ln.2 ⟨WL.le,WL.lt⟩] at X;cases X
         |true=>
          simp only[↓zP,zJ,seval,ON 3 rfl,n 3 rfl,fS 3 rfl,E 3 rfl,cU,oL an,Gy,ab,d];have bb:wR (F++[q])=wR F++[(AV.agg (nI q),AV.bool true)]:=(by simp[wR]);refine⟨F++[q],⟨?_,fun x C=>?_,fun a b c O Z h3 h4 x C WL=>List.mem_append_left _ (u.tr a b c O Z h3 h4 x C WL),?_,?_,?_⟩,fun x C WL=>?_⟩
          . rw[List.nodup_append];refine⟨u.nd,by simp,fun a I b GC=>?_⟩;simp only[Ba,Cn,Fg] at GC;subst GC;rintro rfl;exact iP I
          . rcases Ar.1 C with h|h
            . exact u.is x h
            simp only[Ba,Cn,Fg] at h;subst h;exact br X
          . rw[bb];simp only[seval,zI]
          . simp only[aB.bB,aB.bJ];omega
          . exact((u.fr.alloc _).set A3 _).set (by simp only[aB.bB,aB.bJ];omega) _
          rcases aq x C with h|rfl
          . exact List.mem_append_left _ (Xg x h WL)
          exact List.mem_append_right _ A3
       rintro f4 G ON ⟨F,u,Xg⟩;refine Tx ?_;refine⟨F,u.to (u.tr.step (fun q h=>h) fun q D bp=>Xg q ?_ bp)⟩;rw[Bd A0,<-Oi];exact D
     rintro f3 W n ⟨F,u⟩;refine Tx ?_;exact⟨F,u.to u.tr.down⟩
   rintro f2 H2 fS ⟨F,u⟩;refine Tx ?_;exact⟨F,u.to u.tr.next⟩
 rintro f H E ⟨F,u⟩;refine Tx ?_;apply hK;clear hK K;have bn:=u.tr.all u.is;have DK:=u.nx;have ab:=u.mp;refine bP ?_;refine Tz ?_;refine bQ ?_;refine aP fun K hK=>?_;refine bP ?_;simp only[↓zP,zG,seval,E 3 rfl];refine NS A1 (by simp only[↓zP,seval]) ab fun N c mb Xb bl=>?_;refine Tx ?_;refine bQ ?_;have b9:(wR F).length=F.length:=by simp[wR]
 rw[b9] at Xb;generalize aj:H.next=w at *;have c4:¬(0=w):=by omega
 refine aM ?_
 refine jW [10] (fun m vs H'=>∃A:List Nat,A.Nodup/\(∀j∈A,j<F.length)/\m+A.length=F.length/\H'.get w=some (.iter 0 mb c (A.map fun j=>N.getD j 0))/\H'.get 0=some (.tW (wR F) N c mb)/\w<H'.next/\
  ((A=[]/\vs=[.bG])\/∃p,A≠[]/\vs=[.sl p 4 0 A.length A.length]/\H'.get p=some (.cells (A.map fun j=>nI (F.getD j (V0,0))).flatten true)/\p<H'.next/\¬(0=p)/\¬(w=p))) F.length (by rfl) ?_ ?_
 . refine⟨[],List.nodup_nil,fun j Y=>(nomatch Y),rfl,?_,?_,?_,.inl ⟨rfl,?_⟩⟩
   . simp only[seval,zI,aj]
   . simp only[seval,zI,aj];rw[if_neg A0]
   . simp only[seval,zI,aj]
     try omega
   exact ZaI
 rintro m f2 H2 fS ⟨A,j1,j2,j3,gi,g0,eZ,vD⟩
 have vC:∀j,j<F.length->N.getD j 0∈(A.map fun j=>N.getD j 0)->j∈A:=fun j Y hm=>by obtain⟨x,x1,x2⟩:=Be.1 hm;have C:=j2 x x1;rw[<-yt bl A0 A0 x2];exact x1
 refine aP fun L dJ=>?_;refine Tz ?_;refine PK A1 (by simp only[↓zP,seval,fS 73 rfl]) gi g0 (fun iO=>?_) fun j Y b8=>?_
 . refine Tz ?_;apply dJ;clear dJ L;refine Tz ?_;apply hK;clear hK K
   have ad:(A.map fun j=>F.getD j (V0,0)).Perm F:=by
    have O:=(fm j1 j2 fun j Y=>vC j Y (iO _ (by
     simp only[List.getD,Ai (show j<N.length by omega),By]
     exact Ag _))).map fun j=>F.getD j (V0,0)
    rwa [QZ] at O
   have QC:∀S1:List (aH.V×Int),S1.Perm F->(S1.Pairwise fun a b=>¬jC b.1 a.1)->S1=S:=fun S1 O Z=>(pS.o7 u.nd bn O Z).uniq hS
   have bo:F.length<=2^20:=by have O:=yR u.nd u.is;have Z:l.length*(l.length*(l.length*2))<=64*(64*(64*2)):=Az Q (Az Q (Az Q (Ad _)));omega
   rcases vD with ⟨rfl,J⟩|⟨p,cU,J,gr,ay,bx,ar⟩
   . simp only[zM] at J;simp only[↓zP,zG,seval,J];refine eI (nN Tryz.aIx rfl VY 249 _) ?_;simp only[↓zP,zG,seval,J];have ae:[]=S:=QC [] ad List.Pairwise.nil;refine Rx ?_;rw[<-ae];exact⟨_,0,rfl,fun t=>rfl⟩
   simp only[zM] at J;simp only[↓zP,zG,seval,J];generalize ae:(A.map fun j=>F.getD j (V0,0))=S0 at ad;have TO:(S0.map plV).length=A.length:=(by rw[<-ae];simp);have c5:=ad.length_eq;obtain⟨d',q1,q2,q3⟩:=aIy (S0.map plV) (by simp only[Ah];omega)
   have bf:H2.get p=some (.cells ((oN (S0.map plV)).map (AV.int .i64)) true):=by rw[gr,RD,<-ae,Ea];rfl
   have R:=q3 H2 p true bf;rw[TO] at R;refine eI (R) ?_;simp only[↓zP,zG,seval,J];have sN:d'=(d'.map unV).map plV:=by rw[Ea];exact(Dk (g:=id) (fun x _=>qd x)).trans (Gn d') |>.symm
   have b3:d'.map unV=S:=QC _ (by
    have O:=q1.map unV;rw[Ea,show(unV∘plV)=id from funext aQi,Gn] at O
    exact O.trans ad) (by
     rw[Ev]
     exact q2.imp fun h Z=>h ((EB _ _).2 Z))
   rw[sN,b3,RD];refine Rx ?_;have ma:(S.map nI).length=A.length:=(by rw[<-b3,Ah,Ah,q1.length_eq,TO]);have bm:¬(S.map nI=[]):=fun h=>cU (Cl (by rw[<-ma,h];rfl));refine⟨_,0,rfl,fun t=>?_⟩;rw[<-ma,lT,if_neg bm];refine Yh ZaK (fun e he=>?_) (dQ EA S) t;obtain⟨q,_,rfl⟩:=Be.1 he;rfl
 have bc:j<F.length:=by omega
 have aA:(wR F).getD j (aC,aC)=(.agg (nI (F.getD j (V0,0))),.bool true):=by simp[wR,List.getD,bc]
 have aE:j∉A:=fun h=>b8 (Be.2 ⟨j,h,rfl⟩);have TO:(A++[j]).length=A.length+1:=by simp
 have bu:A.length+1<=F.length:=by
  have :=sT (A++[j]) (List.range F.length) (List.nodup_append.2 ⟨j1,by simp,fun a I b X=>by
   simp only[Ba,Cn,Fg] at X;rintro rfl
   exact aE (X▸I)⟩) (fun x C=>by
   rw[Bb]
   rcases Ar.1 C with h|h
   . exact j2 x h
   simp only[Ba,Cn,Fg] at h
   omega)
  rwa [Bt,TO] at this
 rw[aA];refine Tz ?_;apply dJ;clear dJ L;have g2:(H2.set w (.iter 0 mb c ((A.map fun j=>N.getD j 0)++[N.getD j 0]))).get 0=some (.tW (wR F) N c mb):=by rw[aB.aD,if_neg A0,g0]
 have g1:(H2.set w (.iter 0 mb c ((A.map fun j=>N.getD j 0)++[N.getD j 0]))).get w=some (.iter 0 mb c ((A.map fun j=>N.getD j 0)++[N.getD j 0])):=by rw[aB.aD,if_pos rfl]
 refine Tz ?_;refine aM ?_;refine bP ?_;refine Tx ?_;refine Wb A1 (by simp only[↓zP,zG,seval,fS 73 rfl]) g1 g2 Y ?_;rw[aA];have p4:(nI (F.getD j (V0,0))).length=4:=rfl;generalize D:F.getD j (V0,0)=q at *;simp only[↓zP,zJ,seval,oL p4];refine bQ ?_;generalize a6:((H2.set w _).alloc _).set _ _=G;have k1:G.get H2.next=some (.cells (nI q) false):=by rw[<-a6,aB.aD,if_pos rfl]
 have k2:G.get w=some (.iter 0 mb c ((A++[j]).map fun j=>N.getD j 0)):=by rw[<-a6,aB.aD,if_neg A0,aB.aJ,aB.bB,if_neg A0,g1,Cg];rfl
 have k3:G.get 0=some (.tW (wR F) N c mb):=by rw[<-a6,aB.aD,if_neg A0,aB.aJ,aB.bB,if_neg A0,g2]
 have k4:G.next=H2.next+1:=by rw[<-a6];simp only[aB.bB,aB.bJ]
 have k5:∀r,¬(r=w)->r<H2.next->G.get r=H2.get r:=fun r O Z=>by rw[<-a6,aB.aD,if_neg A0,aB.aJ,aB.bB,if_neg A0,aB.aD,if_neg A0]
 clear a6 g1 g2
 have aF:(A++[j]).Nodup:=List.nodup_append.2 ⟨j1,by simp,fun a I b X=>by
  simp only[Ba,Cn,Fg] at X;rintro rfl
  exact aE (X▸I)⟩
 have aN:∀x∈A++[j],x<F.length:=fun x C=>by
  rcases Ar.1 C with h|h
  . exact j2 x h
  simp only[Ba,Cn,Fg] at h;omega
 have aK:¬(A++[j]=[]):=by simp
 have bo:F.length<=2^20:=by have O:=yR u.nd u.is;have Z:l.length*(l.length*(l.length*2))<=64*(64*(64*2)):=Az Q (Az Q (Az Q (Ad _)));omega
 rcases vD with ⟨rfl,J⟩|⟨p,cU,J,gr,ay,bx,ar⟩
 . simp only[zM] at J;have I:=CN (H:=G) (sz:=4) (bytes:=32) (ys:=[nI q]) rfl (by simp only[As,Bo];omega);simp only[↓zP,zJ,seval,J,k1,oL p4];rw[show dM G 4 (.bK 1 4 [nI q])=some [nI q] from rfl];simp only[I,bV];refine⟨m -1,?_,[]++[j],aF,aN,?_,?_,?_,?_,.inr ⟨G.next,aK,rfl,?_,?_,?_,?_⟩⟩
   . simp only[Bo] at *;omega
   . simp only[Bo] at *;omega
   . rw[aB.aJ,if_neg A0,k2]
   . rw[aB.aJ,if_neg A0,k3]
   . exact Zal
   . rw[aB.aJ,if_pos rfl];simp only[Bw,Er,Cw,D]
   . exact Zal
   . omega
   omega
 simp only[zM] at J;have bq:=(k5 p (fun h=>ar h.symm) ay).trans gr
 have ba:((A.map fun j=>nI (F.getD j (V0,0))).flatten).length=A.length*4:=by rw[pU (sz:=4) (fun e he=>?_),Ah];obtain⟨x,_,rfl⟩:=Be.1 he;rfl
 have I:=CO (H:=G) (sz:=4) (bytes:=32) (ys:=[nI q]) bq ba rfl (by simp only[As,Bo];omega) A1;simp only[↓zP,zJ,seval,J,k1,oL p4];rw[show dM G 4 (.bK 1 4 [nI q])=some [nI q] from rfl];simp only[I,bV];refine⟨m -1,?_,A++[j],aF,aN,?_,?_,?_,?_,.inr ⟨G.next,aK,?_,?_,?_,?_,?_⟩⟩
 . omega
 . omega
 . rw[aB.aJ,aB.bB,if_neg A0,aB.aD,if_neg A0,k2]
 . rw[aB.aJ,aB.bB,if_neg A0,aB.aD,if_neg A0,k3]
 . simp only[aB.bJ,aB.bB];omega
 . rw[TO];rfl
 . rw[aB.aJ,aB.bB,if_pos rfl];simp only[Cg,Bw,Er,Ex,D]
 . simp only[aB.bJ,aB.bB];omega
 . omega
 omega
theorem aEu(b:Bool)(A B:Prop):gM aC b A B=B:=eK id id
theorem Wo(x:Int):xJ x 0=yA x:=by rfl
theorem Oz(x:Int):(yA x).natAbs<=1:=by grind[yA]
theorem rp(n c:aH.V){i:Nat}(F:i<3)(G:∀k,k<i->n.at k=0)(h:n.at i≠0):aH.tL n c=yA (c.at i)*yA (n.at i):=by
 unfold aH.tL
 match i,F with
 |0,_=>rw[if_pos (show n.x≠0 from h)];rfl
 |1,_=>rw[if_neg (show ¬n.x≠0 from fun e=>e (G 0 A1)),if_pos (show n.y≠0 from h)];rfl
 |2,_=>rw[if_neg (show ¬n.x≠0 from fun e=>e (G 0 A1)),if_neg (show ¬n.y≠0 from fun e=>e (G 1 A1)),if_pos (show n.z≠0 from h)];rfl
theorem Tp(n c:aH.V)(G:∀k,k<3->n.at k=0):aH.tL n c=0:=by unfold aH.tL;rw[if_neg (show ¬n.x≠0 from fun e=>e (G 0 A1)),if_neg (show ¬n.y≠0 from fun e=>e (G 1 A1)),if_neg (show ¬n.z≠0 from fun e=>e (G 2 A1))]
theorem aQh{a b:aH.V}{A B:Nat}(n:aH.V)(I:bT A a)(X:bT B b)(M:A*B<2^61)(H:aB):
 Sg 283 [.agg (cS n),.agg (cS a),.agg (cS b)] H (.ret (.int .i64 (aH.tL n (aH.bC a b)))) H:=by
 refine So bJz Zae ?_ H;unfold aXq;dsimp only;refine aP fun K hK=>?_;refine Wy ?_;apply hK;clear hK K;refine aP fun K hK=>?_;simp only[↓zP,zG,seval,zI,oL (aW a),oL (aW b)];refine eI (Mj I X M _) ?_;generalize R:aH.bC a b=c;simp only[↓zP,zG,seval,zI,oL (aW c)];apply hK;clear hK K;refine aP fun K hK=>?_;refine aP fun L dJ=>?_;simp only[↓zP,zG,seval,zI,oL (aW n)];apply dJ;clear dJ L;refine fE [] (fun i _ H=>(∀k,k<i->n.at k=0)/\H.get 3=some (.cells (cS c) false)) 3 A1 rfl A1 ?_ ?_ ?_ ?_
 . exact zq
 . refine⟨fun k E=>absurd E (Am _),?_⟩;simp only[zI,seval]
 . rintro i f H F E T ⟨G,U⟩;refine aM ?_;have e:i<=2:=by omega
   have q:i+1<=3:=F;by_cases s:n.at i=0
   . have X:(n.at i != 0)=false:=(by simp[s]);simp only[↓zP,zG,seval,zI,T,E 13 rfl,aI,iY n F,aW,U,F,q,X];refine⟨fun k E=>?_,trivial⟩;by_cases d:k=i
     . subst d;exact s
     exact G k A0
   have X:(n.at i != 0)=true:=(by simp[s]);simp only[↓zP,zG,seval,zI,T,E 13 rfl,E 7 rfl,aI,iY n F,aW,U,F,q,iY c F,X];refine eI (kQ (c.at i) 0 _) ?_;refine Tz ?_;refine eI (kQ (n.at i) 0 _) ?_;rw[Wo,Wo]
   have w:IntKind.i64.wrap (yA (c.at i)*yA (n.at i))=yA (c.at i)*yA (n.at i):=gU (B:=1*1) (by rw[Ew];exact Az (Oz _) (Oz _)) A1
   simp only[↓zP,zG,seval,w];refine Rx ?_;rw[R,rp n c F G s];rfl
 rintro f H E ⟨G,U⟩;refine Tx ?_;apply hK;refine Tz ?_;refine Rx ?_;rw[R,Tp n c G];rfl
def xV(z:List Nat):List (List AV):=z.map fun(k:Nat)=>[AV.int .i64 (k:Int)]
theorem dR(z:List Nat):(xV z).length=z.length:=by simp[xV]
variable{z:List Nat}
theorem oX(h:i<z.length):(xV z).getD i []=[AV.int .i64 (z[i]:Int)]:=fT h
def bI:Option Nat->Int
 |none=> -1
 |some k=>k
structure aKe (H H':aB):Prop where
 free:aY H'
 le:H.next<=H'.next
 same:∀j,j<H.next->H'.get j=H.get j
theorem TD{n:aH.V}{p:Nat->aH.V}{a:Nat}{z:List Nat}:∀(l:List Nat) (G:Option Nat) {b:Nat},l.foldl (iU n p a) G=some b->(∀k∈l,k∈z)->(∀c,G=some c->c∈z)->b∈z
 |[],G,b,h,_,hb=>hb b h
 |k::l,G,b,h,hl,hb=>by
  refine TD l _ h (fun x C=>hl x (Ax _ C)) fun c R=>?_;unfold iU at R
  grind
variable{p:Nat->aH.V}{n:aH.V}
theorem aGu{a:Nat}{l:List Nat}{b:Nat}(h:l.foldl (iU n p a) none=some b)(U:∀k∈l,k∈z):b∈z:=
 TD l none h U fun c R=>by grind
theorem oz{t1:Nat}{o1 o2 o3:Bool}{M:Nat}(U:∀v∈l,bT M v)(g:M<=2^18)(Q:l.length<=64){z:List Nat}(R:∀k∈z,k<l.length)(C:z.length<=64){a:Nat}(I:a<l.length)(q:aH.V×Int)
 {H:aB} (N:aY H) {i1 i2 i3:Nat} (b1:i1<H.next) (b2:i2<H.next) (D:i3<H.next) (g1:H.get i1=some (.cells [.bK t1 1 (xV z)] o1)) (g2:H.get i2=some (.cells [.bK tag 3 (bU l)] o2)) (g3:H.get i3=some (.cells (nI q) o3)):
 ∃H',aKe H H'/\Sg 282 [.int .i64 a,.ref i1 0,.ref i2 0,.ref i3 0] H (.ret (.int .i64 (bI (Qg q.1 (fun i=>l.getD i V0) z a)))) H':=by
 suffices h:∃out H',(out=.ret (.int .i64 (bI (Qg q.1 (fun i=>l.getD i V0) z a)))/\aKe H H')/\Sg 282 [.int .i64 a,.ref i1 0,.ref i2 0,.ref i3 0] H out H' by obtain⟨_,H',⟨rfl,t⟩,w⟩:=h;exact⟨H',t,w⟩
 refine bZ fit bJy (Ab rfl) ?_;unfold aXp;dsimp only;have dB:∀k (h:k<l.length),l.getD k V0=l[k]:=fun k h=>by simp[List.getD,h]
 refine aP fun K hK=>?_;refine Tz ?_;apply hK;clear hK K;refine aP fun K hK=>?_;refine Tz ?_;apply hK;clear hK K;refine aP fun K hK=>?_;refine aP fun L dJ=>?_;refine Ww ?_;apply dJ;clear dJ L;refine bR [6] (fun i vs H'=>vs=[.int .i64 (bI ((z.take i).foldl (iU q.1 (fun i=>l.getD i V0) a) none))]/\aKe H H') z.length A0 A1 ?_ ?_ ?_ ?_ ?_
 . exact zq
 . simp only[zB,seval,dR]
 . exact⟨by simp only[sm,zB,seval];rfl,N,Ad _,fun j Y=>rfl⟩
 . rintro i f H1 F E T ⟨J,t⟩;simp only[zM] at J
   have B:(z.take (i+1)).foldl (iU q.1 (fun i=>l.getD i V0) a) none=iU q.1 (fun i=>l.getD i V0) a ((z.take i).foldl (iU q.1 (fun i=>l.getD i V0) a) none) z[i]:=by rw[Ao,Hx];simp[F]
   have ae:∀b,(z.take i).foldl (iU q.1 (fun i=>l.getD i V0) a) none=some b->b<l.length:=fun b X=>R b (aGu X (fun k E=>Cu E));have d:=oX F;have x:=R _ (Ag F);generalize z[i]=k at *;generalize (z.take i).foldl (iU q.1 (fun i=>l.getD i V0) a) none=G at *;refine aM ?_;refine aP fun L dJ=>?_;have :=E 12 rfl;have := @dR;refine Ww ?_;apply dJ;clear dJ L;refine aP fun L dJ=>?_;simp only[↓zP,zG,seval,zI,E 0 rfl];rw[B];by_cases u:k=a
   . have X:((k:Int)==(a:Int))=true:=(by simp[u]);have A:iU q.1 (fun i=>l.getD i V0) a G k=G:=if_pos u;simp only[zG,seval,X,A,J];exact⟨trivial,t⟩
   have X:((k:Int)==(a:Int))=false:=Zag;simp only[zG,seval,X];apply dJ;clear dJ L;refine aP fun L dJ=>?_
   cases G with
   |none=>have A:iU q.1 (fun i=>l.getD i V0) a none k=some k:=if_neg u;have hd:decide (bI none<0)=true:=rfl;simp only[↓zP,zG,seval,J,hd];rw[B,A];exact⟨by simp only[sm,zB,seval];rfl,t⟩
   |some b=>
    have A:iU q.1 (fun i=>l.getD i V0) a (some b) k=if better q.1 (fun i=>l.getD i V0) a b k then some k else some b:=if_neg u
    have hd:decide (bI (some b)<0)=false:=Ac (show ¬((b:Int)<0) by omega);have O:=ae b rfl;have P:bI (some b)=(b:Int):=rfl;simp only[↓zP,zG,seval,J,hd];apply dJ;clear dJ L;have gk:=cG x;have gb:=cG O;have ga:=cG I;refine aP fun L dJ=>?_;refine fZ 2 A1 t.free.at2 fun H2 n2 o=>?_;have Z:=(o i2).trans ((t.same _ b2).trans g2);have h3:=(o i3).trans ((t.same _ D).trans g3);simp only[↓zP,zG,seval,zD,zI,E 2 rfl,E 0 rfl,P,Z,aI,aX,x,I,gk,ga,oL (aW l[k]),oL (aW l[a])];have e:=U _ (Ag x);have nb:=U _ (Ag O);have na:=U _ (Ag I);have vk:aH.sub l[k] l[a]=vec (fun i=>l.getD i V0) a k:=(by simp only[vec,dB k x,dB a I]);have vb:aH.sub l[b] l[a]=vec (fun i=>l.getD i V0) a b:=(by simp only[vec,dB b O,dB a I]);have a6:=gT e na;have a7:=gT nb na;rw[vk] at a6;rw[vb] at a7;refine gV (MG e na A0 _) ?_;rw[vk];simp only[↓zP,zG,seval,zD,zI,E 2 rfl,E 0 rfl,J,P,Z,aI,aX,I,O,gb,ga,oL (aW l[a]),oL (aW l[b])];refine gV (MG nb na A0 _) ?_;rw[vb];have n:better q.1 (fun i=>l.getD i V0) a b k=(decide (aH.tL q.1 (aH.bC (vec (fun i=>l.getD i V0) a b) (vec (fun i=>l.getD i V0) a k))<0)||(decide (aH.tL q.1 (aH.bC (vec (fun i=>l.getD i V0) a b) (vec (fun i=>l.getD i V0) a k))=0)&&decide (aH.dot (vec (fun i=>l.getD i V0) a k) (vec (fun i=>l.getD i V0) a k)>aH.dot (vec (fun i=>l.getD i V0) a b) (vec (fun i=>l.getD i V0) a b)))):=rfl;generalize vec (fun i=>l.getD i V0) a k=to at *;generalize vec (fun i=>l.getD i V0) a b=wy at *;have ag:¬(H1.next=H1.next+1):=A0;have af:¬(H1.next+1=H1.next):=A0;have :=oL (aW to);have :=oL (aW wy);refine Ww ?_;apply dJ;clear dJ L;generalize hX:(((H2.set H1.next _).set (H1.next+1) _).set H1.next _).set (H1.next+1) _=W;have m:=Kx (i:=H1.next) hX;have u2:=Kv (i:=H1.next+1) hX
    have s:aKe H W:=by
     have DK:W.next=H1.next+2:=(by subst hX;simp only[aB.bB,n2]);refine⟨fun j Y=>?_,by have :=t.le;omega,fun j Y=>?_⟩
     . have :=t.free j A0;exact Zbu
     have aj:=t.le;have :=t.same j Y;exact Zbu
    have S:=(s.same _ D).trans g3;generalize H1.next=r at *;clear hX Z h3 o n2;have ad:(nI q).take 3=cS q.1:=rfl;have ab:(nI q).length=4:=rfl;have hB:(M+M)*(M+M)<=2^19*2^19:=Az A0 A0;refine aP fun L dJ=>?_;simp only[↓zP,zG,seval,zI,E 3 rfl,m,u2,S,ad,ab,oL (aW to),oL (aW wy)];refine eI (aQh q.1 a7 a6 A0 _) ?_;generalize aH.tL q.1 (aH.bC wy to)=c at *;refine Tz ?_;apply dJ;clear dJ L;refine aP fun L dJ=>?_;refine Dz ?_;by_cases c1:c<0
    . have p:=Af c1;simp only[↓zP,zG,seval,zD,zI,p,aEu];apply dJ;clear dJ L;simp only[↓zP,zG,seval,zI];rw[B,A,if_pos (by rw[n,p];rfl)];exact⟨rfl,s⟩
    have p:=Ac c1;by_cases c2:c=0
    . have d2:(c==0)=true:=Dr.2 c2;simp only[↓zP,zG,seval,zD,zI,p,d2,m,oL (aW to)];refine gV (LG a6 a6 A0 _) ?_;simp only[↓zP,zG,seval,zD,zI,u2,oL (aW wy)];refine gV (LG a7 a7 A0 _) ?_;simp only[↓zP,zG,seval,zD,zI];apply dJ;clear dJ L;have d3:decide (c=0)=true:=Af c2;by_cases c3:aH.dot wy wy<aH.dot to to
      . have y:decide (aH.dot to to>aH.dot wy wy)=true:=Af c3;simp only[↓zP,zG,seval,zI,y];rw[B,A,if_pos (by rw[n,p,d3,y];rfl)];exact⟨rfl,s⟩
      have y:decide (aH.dot to to>aH.dot wy wy)=false:=Ac c3;simp only[↓zP,zG,seval,zI,y,J];rw[B,A,if_neg (by rw[n,p,d3,y];decide)];exact⟨rfl,s⟩
    have d2:(c==0)=false:=Dc.2 c2;have d3:decide (c=0)=false:=Ac c2;simp only[↓zP,zG,seval,zD,zI,p,d2];apply dJ;clear dJ L;simp only[↓zP,zG,seval,zI,J];rw[B,A,if_neg (by rw[n,p,d3];simp)];exact⟨rfl,s⟩
 rintro f H1 E ⟨J,t⟩;simp only[zM] at J;rw[Ap] at J;refine Tx ?_;apply hK;refine Wy ?_;refine Rx ?_;exact⟨rfl,t⟩
theorem Ts{s m:Nat}(h:aH.Way n p z s m (tO n p z))(i:Nat):Qg n p z (iter (tO n p z) i s)=some (iter (tO n p z) (i+1) s):=by
 obtain⟨S,w⟩:=h.side i;obtain⟨b,X,_⟩:=YB h.H S (w.crn h.H S) ⟨_,w.1,w.2.1⟩;show _=some ((aH.Qg n p z _).getD 0)
 grind
theorem aQr{s m:Nat}(h:aH.Way n p z s m (tO n p z)):2<=m:=by
 rcases Ep 1 m with h1|h1
 . omega
 have t:m=1:=by have :=h.pos;omega
 have X:=h.back;rw[t] at X;exact absurd X (h.side 0).2.2.1
theorem vL{sz:Nat}{v:AV}{els:List (List AV)}(h:Own H sz v els)(A:H.next<=H'.next)(E:∀k,k<H.next->H.get k=some .tok->H'.get k=some .tok):Own H' sz v els:=by
 rcases h with ⟨rfl,rfl⟩|⟨k,rfl,O,Z⟩
 . exact .inl ⟨rfl,rfl⟩
 exact .inr ⟨k,rfl,by omega,E k O Z⟩
theorem Ql(a b:List Nat):xV (a++b)=xV a++xV b:=by simp[xV]
theorem IU(a:List Nat):fK (xV a)=true:=dQ (fun _=>by rfl) a
theorem Qt(ht:Nat.blt tag 2=true){l:List aH.V}{M:Nat}(U:∀v∈l,bT M v)(hM:M<=2^18)(Q:l.length<=64){q:aH.V×Int}{B:Nat}(hq:bT B q.1)(hB:3*(B*M)<2^62)
 {L:List Nat} (hP:Poly (fun i=>l.getD i V0) l.length q.1 q.2 L) (H:aB):
 Sg 240 [.bK tag 3 (bU l),.agg (nI q)] H (.ret (.bK 0 1 (xV L))) H:=by
 refine fA fit dZ bIy (Ab rfl) (by simp only[sf,cT ht,EA]) ?_ H;obtain⟨s0,r,m,ZH,W,rfl⟩:=hP.ex;unfold aWp;dsimp only;have c:∀k (h:k<l.length),l.getD k V0=l[k]:=fun k h=>by simp[List.getD,h]
 have p4:(nI q).length=4:=rfl;have P:(nI q).take 3=cS q.1:=rfl;have p1:(nI q).getD 3 aC=.int .i64 q.2:=rfl;refine bP ?_;refine Ty ?_;refine fQ ?_;refine Ty ?_;refine bQ ?_;refine aP fun K hK=>?_;refine bP ?_;refine Ty ?_;refine bQ ?_;generalize Xf:iF (fun i=>l.getD i V0) l.length q.1 q.2=z at *;have h0:aY (((aB.mk 0 .nil |>.alloc (.cells [.bK tag 3 (bU l)] false)).alloc (.cells (nI q) false)).alloc (.cells [.bG] false)):=(((aY.nil 0).alloc _).alloc _).alloc _;refine bR [] (fun i vs H'=>∃v,H'.get 2=some (.cells [v] false)/\Own H' 1 v (xV ((List.range i).filter fun k=>decide (aH.dot q.1 (l.getD k V0)=q.2)))/\H'.get 0=some (.cells [.bK tag 3 (bU l)] false)/\H'.get 1=some (.cells (nI q) false)/\3<=H'.next/\aY H') l.length A0 A1 ?_ ?_ ?_ ?_ ?_
 . exact zq
 . exact Zbw
 . exact⟨.bG,by simp only[zI,seval],.nil _ _,by simp only[zI,seval],by simp only[zI,seval],by simp only[zI,seval],h0⟩
 . rintro i f H1 F E T ⟨v,e,S,g0,g,A,N⟩;have d:=cG F;have TK:=c i F;have C:=U _ (Ag F)
   have ar:(List.range (i+1)).filter (fun k=>decide (aH.dot q.1 (l.getD k V0)=q.2))=(List.range i).filter (fun k=>decide (aH.dot q.1 (l.getD k V0)=q.2))++(if aH.dot q.1 l[i]=q.2 then [i] else []):=by rw[Dh,Iz];congr 1;simp only[Jp,Jx,TK,Bs]
   have AE:((List.range i).filter fun k=>decide (aH.dot q.1 (l.getD k V0)=q.2)).length<=64:=by have :=Da (fun k=>decide (aH.dot q.1 (l.getD k V0)=q.2)) (List.range i);rw[Bt] at this;omega
   rw[ar];generalize (List.range i).filter (fun k=>decide (aH.dot q.1 (l.getD k V0)=q.2))=ae at *;generalize l[i]=x at *;have a7:¬(1=H1.next):=A0;have a6:¬(2=H1.next):=A0;have yw:¬(0=H1.next):=A0;refine aM ?_;refine bP ?_;simp only[↓zP,zJ,seval,T,E 11 rfl,aI,aX,F,d,oL (aW x)];refine fQ ?_;refine Dz ?_;have :=E 3 rfl;have :=oL (aW x);have :=LG hq C hB;refine Wy ?_;refine bQ ?_;generalize hX:(H1.alloc _).set H1.next _=G;have y0:G.get 0=some (.cells [.bK tag 3 (bU l)] false):=(by subst hX;rw[aB.aD,if_neg yw,aB.aJ,if_neg yw];exact g0);have y1:G.get 1=some (.cells (nI q) false):=(by subst hX;rw[aB.aD,if_neg a7,aB.aJ,if_neg a7];exact g);have y:G.get 2=some (.cells [v] false):=(by subst hX;rw[aB.aD,if_neg a6,aB.aJ,if_neg a6];exact e);have yn:3<=G.next:=Zau;have yf:aY G:=by subst hX;exact(N.alloc _).set A3 _
   have yo:Own G 1 v (xV ae):=by refine vL S Zau fun k O Z=>?_;subst hX;rw[aB.aD,if_neg A0,aB.aJ,if_neg A0];exact Z
   by_cases R:aH.dot q.1 x=q.2
   . have X:(aH.dot q.1 x==q.2)=true:=Dr.2 R;obtain⟨H5,z1,z2,b,z4,z5⟩:=Has.push (.inr yo) (ys:=[[AV.int .i64 (i:Int)]]) (bytes:=8) rfl (by simp only[dR,As,Bo];omega);simp only[↓zP,zJ,seval,X,E 5 rfl,y];rw[show dM G 1 (.bK 1 1 [[.int .i64 (i:Int)]])=some [[.int .i64 (i:Int)]] from rfl];have w2:=(z4 2 A0 (by rw[y];simp)).trans y;simp only[z1,bV,zJ,seval,w2];rw[if_pos R,Ql];exact⟨_,rfl,.inr ⟨G.next,rfl,by simp only[aB.bB];omega,by rw[aB.aD,if_neg A0];exact b⟩,(z4 0 A0 (by rw[y0];simp)).trans y0,(z4 1 A0 (by rw[y1];simp)).trans y1,by omega,(z5 yf).set A0 _⟩
   have X:(aH.dot q.1 x==q.2)=false:=Dc.2 R;simp only[↓zP,zG,seval,X];rw[if_neg R,Bx];exact⟨v,y,yo,y0,y1,yn,yf⟩
 rintro f H1 E ⟨v,e,S,g0,g,A,N⟩;have Y:(List.range l.length).filter (fun k=>decide (aH.dot q.1 (l.getD k V0)=q.2))=z:=Xf;rw[Y] at S;refine Tx ?_;apply hK;clear hK K;have s:xV z≠[]:=by rw[ZH];simp[xV]
 rcases S with ⟨_,h⟩|⟨tk,rfl,ag,af⟩
 . exact absurd h s
 have ad:z.length<=64:=by have :=Da (fun k=>decide (aH.dot q.1 (l.getD k V0)=q.2)) (List.range l.length);rw[Y,Bt] at this;omega
 have eZ:∀k∈z,k<l.length:=fun k E=>by rw[<-Xf] at E;exact(cJ.1 E).1
 have o:(xV z).getD 0 []=[AV.int .i64 (s0:Int)]:=by rw[ZH];rfl
 have D:asNat (.int .i64 0)=some 0:=rfl;have p:0<(xV z).length:=by rw[ZH];simp[xV]
 have nx:∀j,j<3->¬(j=H1.next):=fun j hj=>by omega
 have u:=eZ _ W.hs;refine bP ?_;simp only[↓zP,zJ,seval,E 5 rfl,E 2 rfl,E 3 rfl];refine fQ ?_;simp only[↓zP,zJ,seval,E 5 rfl,e,p,o,D];refine bQ ?_;obtain⟨H2,t,w⟩:=oz (tag:=tag) U hM Q eZ ad u q N (i1:=2) (i2:=0) (i3:=1) A0 A0 A0 e g0 g;have ab:=Ts W 0;change aH.Qg _ _ _ s0=_ at ab;rw[ab] at w;refine aP fun K hK=>?_;refine bP ?_;simp only[↓zP,zJ,seval,E 5 rfl,e,p,o,D];refine nM (fs:=[]) (cs:=[.ref 2 0,.ref 0 0,.ref 1 0]) A1 Zbj (by simp only[sm,zB,seval];rfl) w ?_;refine Tz ?_;refine bQ ?_;refine aM ?_
 refine jW [9,10] (fun M' vs H'=>∃i,i<m/\M'=m -i/\∃v,vs=[v,.int .i64 (iter (tO q.1 (fun i=>l.getD i V0) z) (i+1) s0:Nat)]/\Has H' 1 v (xV ((List.range (i+1)).map fun i=>iter (tO q.1 (fun i=>l.getD i V0) z) i s0))/\(0<i->v≠ .bK 1 1 (xV ((List.range (i+1)).map fun i=>iter (tO q.1 (fun i=>l.getD i V0) z) i s0)))/\
  H'.get 2=some (.cells [.bK (tk+2) 1 (xV z)] false)/\H'.get 0=some (.cells [.bK tag 3 (bU l)] false)/\H'.get 1=some (.cells (nI q) false)/\3<=H'.next/\aY H') m (by rfl) ?_ ?_
 . refine⟨0,W.pos,rfl,_,by simp only[sm,zB,seval];rfl,.inl rfl,fun h=>absurd h (Ff 0),(t.same 2 A0).trans e,(t.same 0 A0).trans g0,(t.same 1 A0).trans g,by have :=t.le;omega,t.free⟩
 clear w t H2 e g0 g N A ag af;rintro M' f2 H2 fS ⟨i,F,rfl,v,J,S,aq,e,g0,g,A,N⟩;simp only[zM] at J;obtain⟨v9,a⟩:=J;refine aP fun K2 dJ=>?_;refine bP ?_;simp only[↓zP,zJ,seval,fS 5 rfl,E 5 rfl,e,p,o,D,a];refine bQ ?_;by_cases Rc:i+1=m
 . have X:((iter (tO q.1 (fun i=>l.getD i V0) z) (i+1) s0:Int) != (s0:Int))=false:=by rw[Rc,W.back];simp
   have Z:=aQr W;simp only[↓zP,zG,seval,X];apply hK;clear hK K dJ K2;simp only[↓zP,zG,seval,v9];refine Rx ?_;rw[<-Rc];exact⟨v,0,rfl,fun nw=>S.shut (by simp[xV]) (aq A0) (IU _) nw⟩
 have X:((iter (tO q.1 (fun i=>l.getD i V0) z) (i+1) s0:Int) != (s0:Int))=true:=by have :=W.first (i+1) A0 A0;simp only[Ge,ne_eq];omega
 simp only[↓zP,zG,seval,X];apply dJ;clear dJ K2;obtain⟨ak,ay⟩:=W.side (i+1);have OM:=eZ _ ak;have I:=Ts W (i+1);have az:=W.le;have an:((List.range (i+1)).map fun i=>iter (tO q.1 (fun i=>l.getD i V0) z) i s0).length=i+1:=by simp
 have aj:(List.range (i+1+1)).map (fun i=>iter (tO q.1 (fun i=>l.getD i V0) z) i s0)=(List.range (i+1)).map (fun i=>iter (tO q.1 (fun i=>l.getD i V0) z) i s0)++[iter (tO q.1 (fun i=>l.getD i V0) z) (i+1) s0]:=by rw[Dh (n:=i+1),Cg];rfl
 obtain⟨H5,z1,z2,b,z4,z5⟩:=S.push (ys:=[[AV.int .i64 (iter (tO q.1 (fun i=>l.getD i V0) z) (i+1) s0:Nat)]]) (bytes:=8) rfl (by rw[dR,an,As,Bo];omega);have w2:=(z4 2 A0 (by rw[e];simp)).trans e;have w0:=(z4 0 A0 (by rw[g0];simp)).trans g0;have w1:=(z4 1 A0 (by rw[g];simp)).trans g;obtain⟨H6,t,w⟩:=oz (tag:=tag) U hM Q eZ ad OM q (z5 N) (i1:=2) (i2:=0) (i3:=1) A0 A0 A0 w2 w0 w1;rw[I] at w;refine bP ?_;refine aM ?_;simp only[↓zP,zJ,seval,v9,a];rw[show ∀x:AV,dM H2 1 (.bK 1 1 [[x]])=some [[x]] from fun _=>rfl];simp only[z1,bV,seval];refine bQ ?_;simp only[↓zP,zJ,seval,fS 8 rfl,a];refine nM (fs:=[]) (cs:=[.ref 2 0,.ref 0 0,.ref 1 0]) A1 (by rfl) (by rfl) w ?_;refine Tz ?_;refine⟨m -(i+1),by omega,i+1,by omega,rfl,.bK (H2.next+2) 1 _,rfl,?_,fun _ h=>by injection h with h;omega,(t.same 2 A0).trans w2,(t.same 0 A0).trans w0,(t.same 1 A0).trans w1,by have :=t.le;omega,t.free⟩;rw[aj,Ql];exact .inr (.inr ⟨H2.next,rfl,by have :=t.le;omega,(t.same _ A0).trans b⟩)
end Go.Proofs.YtogfcjbgeebfkaaGreatDoor
