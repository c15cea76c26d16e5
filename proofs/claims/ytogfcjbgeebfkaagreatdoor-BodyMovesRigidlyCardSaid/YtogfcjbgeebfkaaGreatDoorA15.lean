/-
  Part of the proof of statement 9
-/
import Derived.Test.YtogfcjbgeebfkaaGreatDoorA13
import Derived.Test.YtogfcjbgeebfkaaGreatDoorA14
import Derived.Test.YtogfcjbgeebfkaaGreatDoorA06
import Derived.Test.YtogfcjbgeebfkaaGreatDoorA07
import Derived.Test.YtogfcjbgeebfkaaGreatDoorA12
import Derived.Test.YtogfcjbgeebfkaaGreatDoorA05
import Derived.Test.YtogfcjbgeebfkaaGreatDoorProg
import Derived.Shelf.SlSortCmp.NoneTotal
import Derived.Ground.SlsfProg
set_option linter.unusedSimpArgs false
set_option linter.unusedVariables false
set_option maxRecDepth 100000
set_option maxHeartbeats 16000000
namespace Go.Proofs
open Go.Shelf
def Tryz.aBh:Go.Shelf.Ren:=⟨fun |6=>248|15=>288|14=>287|28=>271|29=>321|20=>313|21=>314|22=>315|23=>316|24=>317|25=>318|26=>319|27=>320|46=>345|47=>346|48=>347|49=>348|50=>349|57=>361|n=>n,fun |22=>199|24=>202|25=>252|3=>3|39=>151|0=>0|53=>26|55=>149|4=>4|46=>311|45=>310|50=>164|5=>5|9=>9|66=>329|70=>333|76=>347|77=>348|n=>n,fun |n=>n⟩
theorem Tryz.aJr:Go.Proofs.SlLaysF0.n6 Tryz.prog Tryz.aBh:={
 mixed:=by kernel_rfl
 f6:=⟨Tryz.f248.name,by decide,Tryz.func248.trans (Am some (by kernel_rfl))⟩
 f14:=⟨Tryz.f287.name,by decide,Tryz.func287.trans (Am some (by kernel_rfl))⟩
 f15:=Tryz.func288.trans (Am some (by kernel_rfl))
 f20:=⟨Tryz.f313.name,by decide,Tryz.func313.trans (Am some (by kernel_rfl))⟩
 f21:=⟨Tryz.f314.name,by decide,Tryz.func314.trans (Am some (by kernel_rfl))⟩
 f22:=⟨Tryz.f315.name,by decide,Tryz.func315.trans (Am some (by kernel_rfl))⟩
 f23:=⟨Tryz.f316.name,by decide,Tryz.func316.trans (Am some (by kernel_rfl))⟩
 f24:=⟨Tryz.f317.name,by decide,Tryz.func317.trans (Am some (by kernel_rfl))⟩
 f25:=⟨Tryz.f318.name,by decide,Tryz.func318.trans (Am some (by kernel_rfl))⟩
 f26:=⟨Tryz.f319.name,by decide,Tryz.func319.trans (Am some (by kernel_rfl))⟩
 f27:=⟨Tryz.f320.name,by decide,Tryz.func320.trans (Am some (by kernel_rfl))⟩
 f28:=Tryz.func271.trans (Am some (by kernel_rfl))
 f29:=Tryz.func321.trans (Am some (by kernel_rfl))
 f46:=⟨Tryz.f345.name,by decide,Tryz.func345.trans (Am some (by kernel_rfl))⟩
 f47:=Tryz.func346.trans (Am some (by kernel_rfl))
 f48:=Tryz.func347.trans (Am some (by kernel_rfl))
 f49:=⟨Tryz.f348.name,by decide,Tryz.func348.trans (Am some (by kernel_rfl))⟩
 f50:=⟨Tryz.f349.name,by decide,Tryz.func349.trans (Am some (by kernel_rfl))⟩
 f57:=⟨Tryz.f361.name,by decide,Tryz.func361.trans (Am some (by kernel_rfl))⟩
 t0:=Tryz.underlying0
 a0:=Tryz.isAgg0
 z0:=Tryz.sizeOf0
 v0:=Tryz.zeroValue0
 t3:=Tryz.underlying3
 a3:=Tryz.isAgg3
 z3:=Tryz.sizeOf3
 v3:=Tryz.zeroValue3
 t4:=Tryz.underlying4
 a4:=Tryz.isAgg4
 z4:=Tryz.sizeOf4
 v4:=Tryz.zeroValue4
 t5:=Tryz.underlying5
 a5:=Tryz.isAgg5
 z5:=Tryz.sizeOf5
 v5:=Tryz.zeroValue5
 t9:=Tryz.underlying9
 a9:=Tryz.isAgg9
 z9:=Tryz.sizeOf9
 v9:=Tryz.zeroValue9
 t22:=Tryz.underlying199
 a22:=Tryz.isAgg199
 z22:=Tryz.sizeOf199
 v22:=Tryz.zeroValue199
 t25:=Tryz.underlying252
 a25:=Tryz.isAgg252
 z25:=Tryz.sizeOf252
 v25:=Tryz.zeroValue252
 t39:=Tryz.underlying151
 a39:=Tryz.isAgg151
 z39:=Tryz.sizeOf151
 v39:=Tryz.zeroValue151
 t45:=Tryz.underlying310
 a45:=Tryz.isAgg310
 z45:=Tryz.sizeOf310
 v45:=Tryz.zeroValue310
 t46:=Tryz.underlying311
 a46:=Tryz.isAgg311
 z46:=Tryz.sizeOf311
 v46:=Tryz.zeroValue311
 t50:=Tryz.underlying164
 a50:=Tryz.isAgg164
 z50:=Tryz.sizeOf164
 v50:=Tryz.zeroValue164
 t53:=Tryz.underlying26
 a53:=Tryz.isAgg26
 z53:=Tryz.sizeOf26
 v53:=Tryz.zeroValue26
 t55:=Tryz.underlying149
 a55:=Tryz.isAgg149
 z55:=Tryz.sizeOf149
 v55:=Tryz.zeroValue149
 t66:=Tryz.underlying329
 a66:=Tryz.isAgg329
 z66:=Tryz.sizeOf329
 v66:=Tryz.zeroValue329
 t70:=Tryz.underlying333
 a70:=Tryz.isAgg333
 z70:=Tryz.sizeOf333
 v70:=Tryz.zeroValue333
 t76:=Tryz.underlying347
 a76:=Tryz.isAgg347
 z76:=Tryz.sizeOf347
 v76:=Tryz.zeroValue347
 t77:=Tryz.underlying348
 a77:=Tryz.isAgg348
 z77:=Tryz.sizeOf348
 v77:=Tryz.zeroValue348}
def Tryz.aBg:Go.Shelf.Ren:=⟨fun |6=>284|15=>288|14=>312|28=>271|29=>321|20=>337|21=>338|22=>339|23=>340|24=>341|25=>342|26=>343|27=>344|46=>358|47=>346|48=>347|49=>359|50=>360|57=>372|n=>n,fun |22=>194|24=>23|25=>285|3=>3|39=>151|0=>0|53=>26|55=>149|4=>4|46=>311|45=>310|50=>164|5=>5|9=>9|66=>329|70=>333|76=>347|77=>348|n=>n,fun |n=>n⟩
theorem Tryz.aTw:Go.Proofs.SlLaysF0.n6 Tryz.prog Tryz.aBg:={
 mixed:=by kernel_rfl
 f6:=⟨Tryz.f284.name,by decide,Tryz.func284.trans (Am some (by kernel_rfl))⟩
 f14:=⟨Tryz.f312.name,by decide,Tryz.func312.trans (Am some (by kernel_rfl))⟩
 f15:=Tryz.func288.trans (Am some (by kernel_rfl))
 f20:=⟨Tryz.f337.name,by decide,Tryz.func337.trans (Am some (by kernel_rfl))⟩
 f21:=⟨Tryz.f338.name,by decide,Tryz.func338.trans (Am some (by kernel_rfl))⟩
 f22:=⟨Tryz.f339.name,by decide,Tryz.func339.trans (Am some (by kernel_rfl))⟩
 f23:=⟨Tryz.f340.name,by decide,Tryz.func340.trans (Am some (by kernel_rfl))⟩
 f24:=⟨Tryz.f341.name,by decide,Tryz.func341.trans (Am some (by kernel_rfl))⟩
 f25:=⟨Tryz.f342.name,by decide,Tryz.func342.trans (Am some (by kernel_rfl))⟩
 f26:=⟨Tryz.f343.name,by decide,Tryz.func343.trans (Am some (by kernel_rfl))⟩
 f27:=⟨Tryz.f344.name,by decide,Tryz.func344.trans (Am some (by kernel_rfl))⟩
 f28:=Tryz.func271.trans (Am some (by kernel_rfl))
 f29:=Tryz.func321.trans (Am some (by kernel_rfl))
 f46:=⟨Tryz.f358.name,by decide,Tryz.func358.trans (Am some (by kernel_rfl))⟩
 f47:=Tryz.func346.trans (Am some (by kernel_rfl))
 f48:=Tryz.func347.trans (Am some (by kernel_rfl))
 f49:=⟨Tryz.f359.name,by decide,Tryz.func359.trans (Am some (by kernel_rfl))⟩
 f50:=⟨Tryz.f360.name,by decide,Tryz.func360.trans (Am some (by kernel_rfl))⟩
 f57:=⟨Tryz.f372.name,by decide,Tryz.func372.trans (Am some (by kernel_rfl))⟩
 t0:=Tryz.underlying0
 a0:=Tryz.isAgg0
 z0:=Tryz.sizeOf0
 v0:=Tryz.zeroValue0
 t3:=Tryz.underlying3
 a3:=Tryz.isAgg3
 z3:=Tryz.sizeOf3
 v3:=Tryz.zeroValue3
 t4:=Tryz.underlying4
 a4:=Tryz.isAgg4
 z4:=Tryz.sizeOf4
 v4:=Tryz.zeroValue4
 t5:=Tryz.underlying5
 a5:=Tryz.isAgg5
 z5:=Tryz.sizeOf5
 v5:=Tryz.zeroValue5
 t9:=Tryz.underlying9
 a9:=Tryz.isAgg9
 z9:=Tryz.sizeOf9
 v9:=Tryz.zeroValue9
 t22:=Tryz.underlying194
 a22:=Tryz.isAgg194
 z22:=Tryz.sizeOf194
 v22:=Tryz.zeroValue194
 t25:=Tryz.underlying285
 a25:=Tryz.isAgg285
 z25:=Tryz.sizeOf285
 v25:=Tryz.zeroValue285
 t39:=Tryz.underlying151
 a39:=Tryz.isAgg151
 z39:=Tryz.sizeOf151
 v39:=Tryz.zeroValue151
 t45:=Tryz.underlying310
 a45:=Tryz.isAgg310
 z45:=Tryz.sizeOf310
 v45:=Tryz.zeroValue310
 t46:=Tryz.underlying311
 a46:=Tryz.isAgg311
 z46:=Tryz.sizeOf311
 v46:=Tryz.zeroValue311
 t50:=Tryz.underlying164
 a50:=Tryz.isAgg164
 z50:=Tryz.sizeOf164
 v50:=Tryz.zeroValue164
 t53:=Tryz.underlying26
 a53:=Tryz.isAgg26
 z53:=Tryz.sizeOf26
 v53:=Tryz.zeroValue26
 t55:=Tryz.underlying149
 a55:=Tryz.isAgg149
 z55:=Tryz.sizeOf149
 v55:=Tryz.zeroValue149
 t66:=Tryz.underlying329
 a66:=Tryz.isAgg329
 z66:=Tryz.sizeOf329
 v66:=Tryz.zeroValue329
 t70:=Tryz.underlying333
 a70:=Tryz.isAgg333
 z70:=Tryz.sizeOf333
 v70:=Tryz.zeroValue333
 t76:=Tryz.underlying347
 a76:=Tryz.isAgg347
 z76:=Tryz.sizeOf347
 v76:=Tryz.zeroValue347
 t77:=Tryz.underlying348
 a77:=Tryz.isAgg348
 z77:=Tryz.sizeOf348
 v77:=Tryz.zeroValue348}
def Tryz.aBi:Go.Shelf.Ren:=⟨fun |6=>323|15=>288|14=>351|28=>271|29=>321|20=>362|21=>363|22=>364|23=>365|24=>366|25=>367|26=>368|27=>369|46=>373|47=>346|48=>347|49=>374|50=>375|57=>376|n=>n,fun |22=>63|24=>33|25=>239|3=>3|39=>151|0=>0|53=>26|55=>149|4=>4|46=>311|45=>310|50=>164|5=>5|9=>9|66=>329|70=>333|76=>347|77=>348|n=>n,fun |n=>n⟩
theorem Tryz.aJt:Go.Proofs.SlLaysF0.n6 Tryz.prog Tryz.aBi:={
 mixed:=by kernel_rfl
 f6:=⟨Tryz.f323.name,by decide,Tryz.func323.trans (Am some (by kernel_rfl))⟩
 f14:=⟨Tryz.f351.name,by decide,Tryz.func351.trans (Am some (by kernel_rfl))⟩
 f15:=Tryz.func288.trans (Am some (by kernel_rfl))
 f20:=⟨Tryz.f362.name,by decide,Tryz.func362.trans (Am some (by kernel_rfl))⟩
 f21:=⟨Tryz.f363.name,by decide,Tryz.func363.trans (Am some (by kernel_rfl))⟩
 f22:=⟨Tryz.f364.name,by decide,Tryz.func364.trans (Am some (by kernel_rfl))⟩
 f23:=⟨Tryz.f365.name,by decide,Tryz.func365.trans (Am some (by kernel_rfl))⟩
 f24:=⟨Tryz.f366.name,by decide,Tryz.func366.trans (Am some (by kernel_rfl))⟩
 f25:=⟨Tryz.f367.name,by decide,Tryz.func367.trans (Am some (by kernel_rfl))⟩
 f26:=⟨Tryz.f368.name,by decide,Tryz.func368.trans (Am some (by kernel_rfl))⟩
 f27:=⟨Tryz.f369.name,by decide,Tryz.func369.trans (Am some (by kernel_rfl))⟩
 f28:=Tryz.func271.trans (Am some (by kernel_rfl))
 f29:=Tryz.func321.trans (Am some (by kernel_rfl))
 f46:=⟨Tryz.f373.name,by decide,Tryz.func373.trans (Am some (by kernel_rfl))⟩
 f47:=Tryz.func346.trans (Am some (by kernel_rfl))
 f48:=Tryz.func347.trans (Am some (by kernel_rfl))
 f49:=⟨Tryz.f374.name,by decide,Tryz.func374.trans (Am some (by kernel_rfl))⟩
 f50:=⟨Tryz.f375.name,by decide,Tryz.func375.trans (Am some (by kernel_rfl))⟩
 f57:=⟨Tryz.f376.name,by decide,Tryz.func376.trans (Am some (by kernel_rfl))⟩
 t0:=Tryz.underlying0
 a0:=Tryz.isAgg0
 z0:=Tryz.sizeOf0
 v0:=Tryz.zeroValue0
 t3:=Tryz.underlying3
 a3:=Tryz.isAgg3
 z3:=Tryz.sizeOf3
 v3:=Tryz.zeroValue3
 t4:=Tryz.underlying4
 a4:=Tryz.isAgg4
 z4:=Tryz.sizeOf4
 v4:=Tryz.zeroValue4
 t5:=Tryz.underlying5
 a5:=Tryz.isAgg5
 z5:=Tryz.sizeOf5
 v5:=Tryz.zeroValue5
 t9:=Tryz.underlying9
 a9:=Tryz.isAgg9
 z9:=Tryz.sizeOf9
 v9:=Tryz.zeroValue9
 t22:=Tryz.underlying63
 a22:=Tryz.isAgg63
 z22:=Tryz.sizeOf63
 v22:=Tryz.zeroValue63
 t25:=Tryz.underlying239
 a25:=Tryz.isAgg239
 z25:=Tryz.sizeOf239
 v25:=Tryz.zeroValue239
 t39:=Tryz.underlying151
 a39:=Tryz.isAgg151
 z39:=Tryz.sizeOf151
 v39:=Tryz.zeroValue151
 t45:=Tryz.underlying310
 a45:=Tryz.isAgg310
 z45:=Tryz.sizeOf310
 v45:=Tryz.zeroValue310
 t46:=Tryz.underlying311
 a46:=Tryz.isAgg311
 z46:=Tryz.sizeOf311
 v46:=Tryz.zeroValue311
 t50:=Tryz.underlying164
 a50:=Tryz.isAgg164
 z50:=Tryz.sizeOf164
 v50:=Tryz.zeroValue164
 t53:=Tryz.underlying26
 a53:=Tryz.isAgg26
 z53:=Tryz.sizeOf26
 v53:=Tryz.zeroValue26
 t55:=Tryz.underlying149
 a55:=Tryz.isAgg149
 z55:=Tryz.sizeOf149
 v55:=Tryz.zeroValue149
 t66:=Tryz.underlying329
 a66:=Tryz.isAgg329
 z66:=Tryz.sizeOf329
 v66:=Tryz.zeroValue329
 t70:=Tryz.underlying333
 a70:=Tryz.isAgg333
 z70:=Tryz.sizeOf333
 v70:=Tryz.zeroValue333
 t76:=Tryz.underlying347
 a76:=Tryz.isAgg347
 z76:=Tryz.sizeOf347
 v76:=Tryz.zeroValue347
 t77:=Tryz.underlying348
 a77:=Tryz.isAgg348
 z77:=Tryz.sizeOf348
 v77:=Tryz.zeroValue348}
end Go.Proofs
namespace Go.Proofs.YtogfcjbgeebfkaaGreatDoor
open Go Go.Av Go.aC
attribute [local congr] aX aQ aR aL bA aW aS aG bB
attribute [local irreducible] FC bT eI
theorem ET(p q:aC.V×Int):Ya p q<0↔iO p.1 q.1:=by
 unfold Ya orZ yB iO
 rcases Fq p.1.x q.1.x with h|h|h
 . simp[h]
 . rcases Fq p.1.y q.1.y with h2|h2|h2
   . simp[h,h2]
   . rcases Fq p.1.z q.1.z with h3|h3|h3
     . simp[h,h2,h3]
     . simp[h,h2,h3]
     simp[h,h2,h3,Int.lt_asymm h3]
   simp[h,h2,Int.lt_asymm h2,Jz h2]
 simp[h,Int.lt_asymm h,Jz h]
def plV(q:aC.V×Int):FG 4:=⟨[q.1.x,q.1.y,q.1.z,q.2],rfl⟩
def unV(x:FG 4):aC.V×Int:=(⟨x.1.getD 0 0,x.1.getD 1 0,x.1.getD 2 0⟩,x.1.getD 3 0)
theorem aRa(q:aC.V×Int):unV (plV q)=q:=rfl
theorem Vs(x:FG 4):plV (unV x)=x:=by
 obtain⟨l,U⟩:=x
 match l,U with
 |[a,b,c,d],_=>rfl
theorem XV(q:aC.V×Int):XU (plV q)=nJ q:=rfl
theorem RU:∀S:List (aC.V×Int),(oT (S.map plV)).map (AV.int .i64)=(S.map nJ).flatten
 |[]=>rfl
 |q::S=>by have :=RU S;simp only[oT,Cg,Dw,Cd,Cl] at this ⊢;rw[this];rfl
theorem bMq:Go.Sort.SWO (Go.Proofs.ltOf fun x y:FG 4=>Ya (unV x) (unV y)) where
 irrefl x:=by simp only[Go.Proofs.ltOf,ET,Ce];exact iO.o5 _
 trans x y z h1 h2:=by simp only[Go.Proofs.ltOf,ET,Br] at *;exact iO.trans h1 h2
 ntrans x y z h1 h2:=by simp only[Go.Proofs.ltOf,ET,Ce] at *;unfold iO at *;omega
def xK(K:List (aC.V×Int)):List (AV×AV):=K.map fun q=>(.agg (nJ q),.bool true)
theorem xo(p q:aC.V×Int):cD [.i,.i,.i,.i] (nJ p) (nJ q)=some (decide (p=q)):=by obtain⟨⟨a,b,c⟩,d⟩:=p;obtain⟨⟨s,I,K⟩,d'⟩:=q;simp only[nJ,cD,if_true,Ct,Ap,V.mk.injEq,Jt];congr 1;rw[Dc];simp[and_assoc]
theorem zt{N:List Nat}(h:N.Nodup){i j:Nat}(F:i<N.length)(Y:j<N.length)(e:N.getD i 0=N.getD j 0):i=j:=by
 simp only[List.getD,Af F,Af Y,By] at e;have m:=Fy.1 h
 rcases Hz i j with h1|h1|h1
 . exact absurd e (m i j F Y h1)
 . exact h1
 exact absurd e.symm (m j i Y F h1)
theorem mw(q:aC.V×Int):∀(K:List (aC.V×Int)) (n:Nat),(q∈K->∃i,nX (.f [.i,.i,.i,.i]) (.agg (nJ q)) (xK K) n=some (some (i,.bool true)))/\(q∉K->nX (.f [.i,.i,.i,.i]) (.agg (nJ q)) (xK K) n=some none)
 |[],n=>⟨fun h=>(nomatch h),fun _=>rfl⟩
 |x::K,n=>by
  obtain⟨O,Z⟩:=mw q K (n+1);simp only[xK,Cg,nX,sameKey,xo] at O Z ⊢;by_cases e:q=x
  . subst e;simp
  simp only[e,Iw,Bd,false_or];exact⟨O,Z⟩
theorem LA(v:aC.V):cD [.i,.i,.i] (cG v) [.int .i64 0,.int .i64 0,.int .i64 0]=some (decide (v=V0)):=by obtain⟨a,b,c⟩:=v;simp only[cG,cD,if_true,Ct,V0,V.mk.injEq,Jt];congr 1;rw[Dc];simp
variable{l:List aC.V}
theorem MC{q:aC.V×Int}:GW l q=true↔(∀k,k<l.length->aC.dot q.1 (l.getD k V0)<=q.2)/\∃k,k<l.length/\aC.dot q.1 (l.getD k V0)<q.2:=by
 have t:∀k (h:k<l.length),l.getD k V0=l[k]:=fun k h=>by simp[List.getD,h]
 simp only[GW,Ak,Bh,Br,Cx,<-Ew,Dl];constructor
 . rintro⟨O,Z⟩;refine⟨fun k E=>by rw[t k E];exact O _ (Ac E),?_⟩;refine Cq fun R=>Z fun v J=>?_;obtain⟨k,E,rfl⟩:=Cz J;have a1:=O _ (Ac E);have Q:¬aC.dot q.1 l[k]<q.2:=fun X=>R ⟨k,E,by rw[t k E];exact X⟩;omega
 rintro⟨O,k,E,Z⟩;refine⟨fun v J=>?_,fun h=>?_⟩
 . obtain⟨k,E,rfl⟩:=Cz J;have :=O k E
   rwa [t k E] at this
 have :=h _ (Ac E);rw[t k E] at Z;omega
structure Found (l:List aC.V) (i j k:Nat) (K:List (aC.V×Int)) (H:aA):Prop where
 nd:K.Nodup
 is:∀q∈K,oM (fun i=>l.getD i V0) l.length q.1 q.2
 tr:uJ (fun i=>l.getD i V0) l.length i j k K
 mp:H.get 0=some (.map (xK K))
 nx:1<=H.next
 fr:bH H
variable{i:Nat}{K:List (aC.V×Int)}{H H':aA}
theorem Found.heap{j k:Nat}(h:Found l i j k K H)(o:H'.get 0=H.get 0)(A:H.next<=H'.next)(N:bH H'):Found l i j k K H':=
 ⟨h.nd,h.is,h.tr,o.trans h.mp,Ay h.nx A,N⟩
variable{a:Nat}
theorem Found.to{j k c p:Nat}(h:Found l i j k K H)(q:uJ (fun i=>l.getD i V0) l.length c a p K):Found l c a p K H:=⟨h.nd,h.is,q,h.mp,h.nx,h.fr⟩
theorem Vk:DH Tryz.prog 248:=⟨_,Tryz.func248,by kernel_rfl,by kernel_rfl⟩
theorem aJs(d:List (FG 4))(hd:d.length<4611686018427387904):
 ∃d':List (FG 4),d'.Perm d/\(d'.Pairwise fun a b=>¬Ya (unV b) (unV a)<0)/\∀(H:aA) (id:Nat) (r:Bool),H.get id=some (.cells ((oT d).map (AV.int .i64)) r)->
  Sg 248 [.sl id 4 0 d.length d.length,.func (.func 249) [] []] H (.ret (.jS [])) (H.set id (.cells ((oT d').map (AV.int .i64)) r)):=
 IN (fun _=>rfl) Tryz.aJr A1 Tryz.isAgg202 Tryz.sizeOf202 rfl Vk (Yb (V0,0) (V0,0) ⟨0,.nil⟩).1 bMq (fun x y=>by
  have :=Yb (unV x) (unV y) ⟨0,.nil⟩
  rwa [<-XV,<-XV,Vs,Vs] at this) d hd
variable{tag:Nat}
theorem Tq(ht:Nat.blt tag 2=true){l:List aC.V}{M:Nat}(hl:∀v∈l,bN M v)(hM:M<=2^18)(Q:l.length<=64){S:List (aC.V×Int)}(hS:oW (fun i=>l.getD i V0) l.length S)(H:aA):
 Sg 191 [.bJ tag 3 (bR l)] H (.ret (mB 4 (S.map nJ))) H:=by
 refine eP fit eE aSx (Ai rfl) Za1 ?_ H;unfold aLn;dsimp only;have dA:∀k (h:k<l.length),l.getD k V0=l[k]:=fun k h=>by simp[List.getD,h]
 refine bP ?_;refine Tz ?_;refine fW ?_;refine Ty ?_;refine bQ ?_;refine aM fun K hK=>?_;refine bP ?_;refine Ty ?_;refine bQ ?_;refine bS [] (fun i _ H=>∃K,Found l i 0 0 K H) l.length A0 A1 ?_ ?_ ?_ ?_ ?_
 . exact zq
 . exact ZbM
 . refine⟨[],List.nodup_nil,fun q D=>(nomatch D),uJ.zero,?_,Ae _,(bH.nil 0).alloc _⟩;rfl
 . rintro i f H hi E e1 ⟨F,L⟩;refine aJ ?_;refine bP ?_;simp only[↓zP,zG,seval,e1];refine fW ?_;refine Tz ?_;refine bQ ?_;refine bS [] (fun j _ H=>∃K,Found l i j 0 K H) i A0 A1 ?_ ?_ ?_ ?_ ?_
   . exact zq
   . exact zq
   . exact⟨F,L⟩
   . clear L F;rintro j f2 w Y fI e2 ⟨F,L⟩;refine aJ ?_;refine bP ?_;simp only[↓zP,zG,seval,e2];refine fW ?_;refine Tz ?_;refine bQ ?_;refine bS [] (fun k _ H=>∃K,Found l i j k K H) j A0 A1 ?_ ?_ ?_ ?_ ?_
     . exact zq
     . exact zq
     . exact⟨F,L⟩
     . clear L F;rintro k f3 H3 bC gA e3 ⟨F,L⟩;have TX:j<l.length:=A0;have CJ:k<l.length:=A0;have gi:=cH hi;have gj:=cH TX;have gk:=cH CJ;have ni:=hl _ (Ac hi);have nj:=hl _ (Ac TX);have nk:=hl _ (Ac CJ)
       have tH:MW l[i] l[j] l[k]=fX (fun i=>l.getD i V0) i j k:=by simp only[MW,fX,vec,dA i hi,dA j TX,dA k CJ]
       refine aJ ?_;refine bP ?_;simp only[↓zP,zG,seval,e3];refine fW ?_;refine fT 1 A1 L.fr.vm fun H1 n1 ak=>?_;have cU:¬(0=H3.next):=(by have :=L.nx;omega);simp only[↓zP,zJ,seval,zD,gA 0 rfl,gA 4 rfl,gA 5 rfl,fI 0 rfl,fI 4 rfl,E 0 rfl,aD,aU,hi,TX,CJ,gi,gj,gk,oL (aT l[i]),oL (aT l[j]),oL (aT l[k])];refine gH (kj ni nj nk hM _) ?_;rw[tH]
       have ag:bN (2*((M+M)*(M+M))) (fX (fun i=>l.getD i V0) i j k).1:=by rw[<-tH];exact vD (iQ (gU nj ni) (gU nk ni))
       have bD:(fX (fun i=>l.getD i V0) i j k).2.natAbs<=3*(2*((M+M)*(M+M))*M):=by rw[<-tH];exact nV (vD (iQ (gU nj ni) (gU nk ni))) ni
       have bb:∀q∈jR (fun i=>l.getD i V0) i j k,GW l q=true->oM (fun i=>l.getD i V0) l.length q.1 q.2:=fun q D ho=>BM hi TX CJ D (MC.1 ho).1 (MC.1 ho).2;have bF:(M+M)*(M+M)<=2^19*2^19:=Be A0 A0;have c8:2*((M+M)*(M+M))*M<=2^39*2^18:=Be A0 A0;have c4:2*((M+M)*(M+M))<=2^39:=by omega
       have QM:jR (fun i=>l.getD i V0) i j k=if(fX (fun i=>l.getD i V0) i j k).1=V0 then [] else [fX (fun i=>l.getD i V0) i j k,(aC.neg (fX (fun i=>l.getD i V0) i j k).1,-(fX (fun i=>l.getD i V0) i j k).2)]:=rfl
       generalize fX (fun i=>l.getD i V0) i j k=T at *;generalize c0:2*((M+M)*(M+M))=B at *;have U:(nJ T).length=4:=rfl;have p3:(nJ T).take 3=cG T.1:=rfl;have p1:(nJ T).getD 3 aB=.int .i64 T.2:=rfl;simp only[↓zP,zJ,seval,zD,n1,oL U];refine bQ ?_;generalize G:(H1.set H3.next _).set H3.next _=o;have b2:bH H1:=fun j Y=>by rw[ak];exact L.fr j A0
       have af:Found l i j k F o:=L.heap (by subst G;rw[aA.aH,if_neg cU,aA.aH,if_neg cU,ak]) ZbP
        (by subst G;exact(b2.set A0 _).set ZbH _)
       have p:o.get H3.next=some (.cells (nJ T) false):=(by subst G;simp only[seval,zI]);have oo:H3.next<o.next:=ZbP;clear G ak n1 b2;clear L;generalize H3.next=r at *;refine aM fun K2 n=>?_;simp only[↓zP,zJ,seval,p,oL U,p3,LA];refine⟨fun hz=>?_,fun hz=>?_⟩
       . refine⟨F,af.to (af.tr.step (fun q h=>h) fun q D=>?_)⟩;rw[QM,if_pos hz] at D;cases D
       apply n;clear n K2;rw[if_neg hz] at QM;have wn:IntKind.i64.wrap (0 -T.2)= -T.2:=(gW (B:=3*(B*M)) A0 A0).trans A0;have bt:[AV.int .i64 (aC.neg T.1).x,.int .i64 (aC.neg T.1).y,.int .i64 (aC.neg T.1).z,.int .i64 (-T.2)]=nJ (aC.neg T.1,-T.2):=rfl;refine bP ?_;refine Dz ?_;simp only[↓zP,zJ,seval,zD,p,oL U,p3];refine gH (tj ag A0 _) ?_;simp only[↓zP,zJ,seval,zD,p,oL U,p1,wn,cG,bt,show(nJ (aC.neg T.1,-T.2)).length=4 from rfl];refine bQ ?_
       have b3:∀q∈jR (fun i=>l.getD i V0) i j k,bN B q.1:=fun q D=>by
        rw[QM] at D;simp only[Bd,Ci,Fe] at D
        rcases D with rfl|rfl
        . exact ag
        exact EK ag
       have TY:[nJ T,nJ (aC.neg T.1,-T.2)]=(jR (fun i=>l.getD i V0) i j k).map nJ:=(by rw[QM];rfl);rw[TY];have VI:(jR (fun i=>l.getD i V0) i j k).length=2:=(by rw[QM];rfl);generalize PA:jR (fun i=>l.getD i V0) i j k=cs at *;refine bS [] (fun s _ H=>∃K,Found l i j k K H/\∀q∈cs.take s,oM (fun i=>l.getD i V0) l.length q.1 q.2->q∈K) 2 A1 A1 ?_ ?_ ?_ ?_ ?_
       . exact zq
       . exact zq
       . exact⟨F,af,fun q D=>(by simp at D)⟩
       . clear af F p oo o;rintro s f4 o hs u e4 ⟨F,L,Xx⟩;have ot:s<cs.length:=A0;have aO:(cs.map nJ).getD s []=nJ cs[s]:=eO ot;have ay:=Ac ot;have al:(nJ cs[s]).length=4:=rfl;have EC:=L.nx;have cU:¬(0=o.next):=A0;have yI:=iy ht hl A0 (b3 _ ay) A0
         have an:∀q,q∈cs.take (s+1)->q∈cs.take s\/q=cs[s]:=fun q D=>by
          rw[Ao,Ar] at D
          rcases D with h|h
          . exact .inl h
          simp[ot] at h;exact .inr h
         have br:=bb _ ay;generalize cs[s]=q at *;have OG:=mw q F 0;have a7:=L.mp;have b1:∀H5:aA,H5.get 0=o.get 0->H5.next=o.next+1->bH H5->Found l i j k F H5:=fun H5 O Z W=>L.heap O A0 W;refine aJ ?_;by_cases iG:q∈F
         . obtain⟨ix,ad⟩:=OG.1 iG;simp only[↓zP,zJ,seval,e4,u 51 rfl,u 3 rfl,gA 3 rfl,fI 3 rfl,E 3 rfl,aD,Ah,ot,aO,oL al,cU,Qd,Gw,a7,ad];refine⟨F,b1 _ ?_ ?_ ?_,fun x C WY=>?_⟩
           . rw[aA.aH,if_neg cU,aA.aI,if_neg cU]
           . simp only[aA.aZ,aA.bK]
           . exact(L.fr.alloc _).set A2 _
           rcases an x C with h|rfl
           . exact Xx x h WY
           exact iG
         have ad:=OG.2 iG;simp only[↓zP,zJ,seval,e4,u 51 rfl,u 3 rfl,u 0 rfl,gA 3 rfl,gA 0 rfl,fI 3 rfl,fI 0 rfl,E 3 rfl,E 0 rfl,aD,Ah,ot,aO,oL al,cU,Qd,Gw,a7,ad];refine fC (yI _) ?_
         cases hb:GW l q with
         |false=>
          refine Tz ?_;refine⟨F,b1 _ ?_ ?_ ?_,fun x C WY=>?_⟩
          . rw[aA.aH,if_neg cU,aA.aI,if_neg cU]
          . simp only[aA.aZ,aA.bK]
          . exact(L.fr.alloc _).set A2 _
          rcases an x C with h|rfl
          . exact Xx x h WY
          rw[MC.2 ⟨WY.le,WY.lt⟩] at hb;cases hb
         |true=>
          simp only[↓zP,zJ,seval,u 3 rfl,gA 3 rfl,fI 3 rfl,E 3 rfl,cU,oL al,Gw,a7,ad];have b7:xK (F++[q])=xK F++[(AV.agg (nJ q),AV.bool true)]:=(by simp[xK]);refine⟨F++[q],⟨?_,fun x C=>?_,fun a b c O Z W h4 x C WY=>List.mem_append_left _ (L.tr a b c O Z W h4 x C WY),?_,?_,?_⟩,fun x C WY=>?_⟩
          . rw[List.nodup_append];refine⟨L.nd,by simp,fun a I b GQ=>?_⟩;simp only[Bd,Ci,Fe] at GQ;subst GQ;rintro rfl;exact iG I
          . rcases Ar.1 C with h|h
            . exact L.is x h
            simp only[Bd,Ci,Fe] at h;subst h;exact br hb
          . rw[b7];simp only[seval,zI]
          . simp only[aA.aZ,aA.bK];omega
          . exact((L.fr.alloc _).set A2 _).set (by simp only[aA.aZ,aA.bK];omega) _
          rcases an x C with h|rfl
          . exact List.mem_append_left _ (Xx x h WY)
          exact List.mem_append_right _ A2
       rintro f4 o u ⟨F,L,Xx⟩;refine Tx ?_;refine⟨F,L.to (L.tr.step (fun q h=>h) fun q D bl=>Xx q ?_ bl)⟩;rw[Au A0,<-PA];exact D
     rintro f3 H3 gA ⟨F,L⟩;refine Tx ?_;exact⟨F,L.to L.tr.down⟩
   rintro f2 w fI ⟨F,L⟩;refine Tx ?_;exact⟨F,L.to L.tr.next⟩
 rintro f H E ⟨F,L⟩;refine Tx ?_;apply hK;clear hK K;have bf:=L.tr.all L.is;have EC:=L.nx;have a7:=L.mp;refine bP ?_;refine Tz ?_;refine bQ ?_;refine aM fun K hK=>?_;refine bP ?_;simp only[↓zP,zG,seval,E 3 rfl];refine Np A1 (by simp only[↓zP,seval]) a7 fun N c A Xr P=>?_;refine Tx ?_;refine bQ ?_;have b5:(xK F).length=F.length:=by simp[xK]
 rw[b5] at Xr;generalize aj:H.next=it at *;have c5:¬(0=it):=by omega
 refine aJ ?_
 refine kJ [10] (fun m vs H'=>∃t:List Nat,t.Nodup/\(∀j∈t,j<F.length)/\m+t.length=F.length/\H'.get it=some (.iter 0 A c (t.map fun j=>N.getD j 0))/\H'.get 0=some (.uW (xK F) N c A)/\it<H'.next/\
  ((t=[]/\vs=[.bE])\/∃X,t≠[]/\vs=[.sl X 4 0 t.length t.length]/\H'.get X=some (.cells (t.map fun j=>nJ (F.getD j (V0,0))).flatten true)/\X<H'.next/\¬(0=X)/\¬(it=X))) F.length (by rfl) ?_ ?_
 . refine⟨[],List.nodup_nil,fun j Y=>(nomatch Y),rfl,?_,?_,?_,.inl ⟨rfl,?_⟩⟩
   . simp only[seval,zI,aj]
   . simp only[seval,zI,aj];rw[if_neg A0]
   . simp only[seval,zI,aj]
     try omega
   exact ZaX
 rintro m f2 w fI ⟨t,d,j2,j3,gi,g0,fF,vX⟩
 have vW:∀j,j<F.length->N.getD j 0∈(t.map fun j=>N.getD j 0)->j∈t:=fun j Y hm=>by obtain⟨x,x1,x2⟩:=Bb.1 hm;have C:=j2 x x1;rw[<-zt P A0 A0 x2];exact x1
 refine aM fun K2 n=>?_;refine Tz ?_;refine PW A1 (by simp only[↓zP,seval,fI 73 rfl]) gi g0 (fun fG=>?_) fun j Y b4=>?_
 . refine Tz ?_;apply n;clear n K2;refine Tz ?_;apply hK;clear hK K
   have ab:(t.map fun j=>F.getD j (V0,0)).Perm F:=by
    have O:=(jc d j2 fun j Y=>vW j Y (fG _ (by
     simp only[List.getD,Af (show j<N.length by omega),By]
     exact Ac _))).map fun j=>F.getD j (V0,0)
    rwa [Ql] at O
   have QO:∀S1:List (aC.V×Int),S1.Perm F->(S1.Pairwise fun a b=>¬iO b.1 a.1)->S1=S:=fun S1 O Z=>(oW.qk L.nd bf O Z).uniq hS
   have bk:F.length<=2^20:=by have O:=zS L.nd L.is;have Z:l.length*(l.length*(l.length*2))<=64*(64*(64*2)):=Be Q (Be Q (Be Q (Ae _)));omega
   rcases vX with ⟨rfl,J⟩|⟨X,cU,J,gr,ar,ed,aq⟩
   . simp only[zM] at J;simp only[↓zP,zG,seval,J];refine fC (nP Tryz.aJr rfl Vk 249 _) ?_;simp only[↓zP,zG,seval,J];have ae:[]=S:=QO [] ab List.Pairwise.nil;refine Rx ?_;rw[<-ae];exact⟨_,0,rfl,fun nw=>rfl⟩
   simp only[zM] at J;simp only[↓zP,zG,seval,J];generalize ae:(t.map fun j=>F.getD j (V0,0))=S0 at ab;have TX:(S0.map plV).length=t.length:=(by rw[<-ae];simp);have c6:=ab.length_eq;obtain⟨d',q1,q2,q3⟩:=aJs (S0.map plV) (by simp only[Ah];omega)
   have ba:w.get X=some (.cells ((oT (S0.map plV)).map (AV.int .i64)) true):=by rw[gr,RU,<-ae,Da];rfl
   have R:=q3 w X true ba;rw[TX] at R;refine fC (R) ?_;simp only[↓zP,zG,seval,J];have tF:d'=(d'.map unV).map plV:=by rw[Da];exact(Dd (g:=id) (fun x _=>Vs x)).trans (Fv d') |>.symm
   have b0:d'.map unV=S:=QO _ (by
    have O:=q1.map unV;rw[Da,show(unV∘plV)=id from funext aRa,Fv] at O
    exact O.trans ab) (by
     rw[Eo]
     exact q2.imp fun h Z=>h ((ET _ _).2 Z))
   rw[tF,b0,RU];refine Rx ?_;have nm:(S.map nJ).length=t.length:=(by rw[<-b0,Ah,Ah,q1.length_eq,TX]);have bc:¬(S.map nJ=[]):=fun h=>cU (Cm (by rw[<-nm,h];rfl));refine⟨_,0,rfl,fun nw=>?_⟩;rw[<-nm,mB,if_neg bc];refine Yx ZaR (fun e he=>?_) (dP ES S) nw;obtain⟨q,_,rfl⟩:=Bb.1 he;rfl
 have b9:j<F.length:=by omega
 have az:(xK F).getD j (aB,aB)=(.agg (nJ (F.getD j (V0,0))),.bool true):=by simp[xK,List.getD,b9]
 have aE:j∉t:=fun h=>b4 (Bb.2 ⟨j,h,rfl⟩);have TX:(t++[j]).length=t.length+1:=by simp
 have bz:t.length+1<=F.length:=by
  have :=tL (t++[j]) (List.range F.length) (List.nodup_append.2 ⟨d,by simp,fun a I b hb=>by
   simp only[Bd,Ci,Fe] at hb;rintro rfl
   exact aE (hb▸I)⟩) (fun x C=>by
   rw[Ax]
   rcases Ar.1 C with h|h
   . exact j2 x h
   simp only[Bd,Ci,Fe] at h
   omega)
  rwa [Bv,TX] at this
 rw[az];refine Tz ?_;apply n;clear n K2;have g2:(w.set it (.iter 0 A c ((t.map fun j=>N.getD j 0)++[N.getD j 0]))).get 0=some (.uW (xK F) N c A):=by rw[aA.aH,if_neg A0,g0]
 have g1:(w.set it (.iter 0 A c ((t.map fun j=>N.getD j 0)++[N.getD j 0]))).get it=some (.iter 0 A c ((t.map fun j=>N.getD j 0)++[N.getD j 0])):=by rw[aA.aH,if_pos rfl]
 refine Tz ?_;refine aJ ?_;refine bP ?_;refine Tx ?_;refine Wm A1 (by simp only[↓zP,zG,seval,fI 73 rfl]) g1 g2 Y ?_;rw[az];have U:(nJ (F.getD j (V0,0))).length=4:=rfl;generalize D:F.getD j (V0,0)=q at *;simp only[↓zP,zJ,seval,oL U];refine bQ ?_;generalize a6:((w.set it _).alloc _).set _ _=o;have k1:o.get w.next=some (.cells (nJ q) false):=by rw[<-a6,aA.aH,if_pos rfl]
 have k2:o.get it=some (.iter 0 A c ((t++[j]).map fun j=>N.getD j 0)):=by rw[<-a6,aA.aH,if_neg A0,aA.aI,aA.aZ,if_neg A0,g1,Cd];rfl
 have k3:o.get 0=some (.uW (xK F) N c A):=by rw[<-a6,aA.aH,if_neg A0,aA.aI,aA.aZ,if_neg A0,g2]
 have k4:o.next=w.next+1:=by rw[<-a6];simp only[aA.aZ,aA.bK]
 have k5:∀r,¬(r=it)->r<w.next->o.get r=w.get r:=fun r O Z=>by rw[<-a6,aA.aH,if_neg A0,aA.aI,aA.aZ,if_neg A0,aA.aH,if_neg A0]
 clear a6 g1 g2
 have aF:(t++[j]).Nodup:=List.nodup_append.2 ⟨d,by simp,fun a I b hb=>by
  simp only[Bd,Ci,Fe] at hb;rintro rfl
  exact aE (hb▸I)⟩
 have aN:∀x∈t++[j],x<F.length:=fun x C=>by
  rcases Ar.1 C with h|h
  . exact j2 x h
  simp only[Bd,Ci,Fe] at h;omega
 have aK:¬(t++[j]=[]):=by simp
 have bk:F.length<=2^20:=by have O:=zS L.nd L.is;have Z:l.length*(l.length*(l.length*2))<=64*(64*(64*2)):=Be Q (Be Q (Be Q (Ae _)));omega
 rcases vX with ⟨rfl,J⟩|⟨X,cU,J,gr,ar,ed,aq⟩
 . simp only[zM] at J;have I:=DK (H:=o) (sz:=4) (bytes:=32) (ys:=[nJ q]) rfl Zcr;simp only[↓zP,zJ,seval,J,k1,oL U];rw[show dJ o 4 (.bJ 1 4 [nJ q])=some [nJ q] from rfl];simp only[I,bX];refine⟨m -1,?_,[]++[j],aF,aN,?_,?_,?_,?_,.inr ⟨o.next,aK,rfl,?_,?_,?_,?_⟩⟩
   . simp only[Ca] at *;omega
   . simp only[Ca] at *;omega
   . rw[aA.aI,if_neg A0,k2]
   . rw[aA.aI,if_neg A0,k3]
   . exact Zao
   . rw[aA.aI,if_pos rfl];simp only[Cg,Hi,Dt,D]
   . exact Zao
   . omega
   omega
 simp only[zM] at J;have bn:=(k5 X (fun h=>aq h.symm) ar).trans gr
 have b6:((t.map fun j=>nJ (F.getD j (V0,0))).flatten).length=t.length*4:=by rw[pZ (sz:=4) (fun e he=>?_),Ah];obtain⟨x,_,rfl⟩:=Bb.1 he;rfl
 have I:=DL (H:=o) (sz:=4) (bytes:=32) (ys:=[nJ q]) bn b6 rfl Zcr A1;simp only[↓zP,zJ,seval,J,k1,oL U];rw[show dJ o 4 (.bJ 1 4 [nJ q])=some [nJ q] from rfl];simp only[I,bX];refine⟨m -1,?_,t++[j],aF,aN,?_,?_,?_,?_,.inr ⟨o.next,aK,?_,?_,?_,?_,?_⟩⟩
 . omega
 . omega
 . rw[aA.aI,aA.aZ,if_neg A0,aA.aH,if_neg A0,k2]
 . rw[aA.aI,aA.aZ,if_neg A0,aA.aH,if_neg A0,k3]
 . simp only[aA.bK,aA.aZ];omega
 . rw[TX];rfl
 . rw[aA.aI,aA.aZ,if_pos rfl];simp only[Cd,Cg,Hi,Fa,D]
 . simp only[aA.bK,aA.aZ];omega
 . omega
 omega
theorem aFi(b:Bool)(A B:Prop):gI aB b A B=B:=eH id id
theorem XD(x:Int):yB x 0=yR x:=by rfl
theorem PN(x:Int):(yR x).natAbs<=1:=by grind[yR]
theorem td(n c:aC.V){i:Nat}(F:i<3)(o:∀k,k<i->n.at k=0)(h:n.at i≠0):aC.uH n c=yR (c.at i)*yR (n.at i):=by
 unfold aC.uH
 match i,F with
 |0,_=>rw[if_pos (show n.x≠0 from h)];rfl
 |1,_=>rw[if_neg (show ¬n.x≠0 from fun e=>e (o 0 A1)),if_pos (show n.y≠0 from h)];rfl
 |2,_=>rw[if_neg (show ¬n.x≠0 from fun e=>e (o 0 A1)),if_neg (show ¬n.y≠0 from fun e=>e (o 1 A1)),if_pos (show n.z≠0 from h)];rfl
theorem UG(n c:aC.V)(o:∀k,k<3->n.at k=0):aC.uH n c=0:=by unfold aC.uH;rw[if_neg (show ¬n.x≠0 from fun e=>e (o 0 A1)),if_neg (show ¬n.y≠0 from fun e=>e (o 1 A1)),if_neg (show ¬n.z≠0 from fun e=>e (o 2 A1))]
theorem aQz{a b:aC.V}{A B:Nat}(n:aC.V)(I:bN A a)(X:bN B b)(M:A*B<2^61)(H:aA):
 Sg 283 [.agg (cG n),.agg (cG a),.agg (cG b)] H (.ret (.int .i64 (aC.uH n (aC.aY a b)))) H:=by
 refine So bKd Zae ?_ H;unfold aXy;dsimp only;refine aM fun K hK=>?_;refine Wy ?_;apply hK;clear hK K;refine aM fun K hK=>?_;simp only[↓zP,zG,seval,zI,oL (aT a),oL (aT b)];refine fC (NH I X M _) ?_;generalize R:aC.aY a b=c;simp only[↓zP,zG,seval,zI,oL (aT c)];apply hK;clear hK K;refine aM fun K hK=>?_;refine aM fun D d=>?_;simp only[↓zP,zG,seval,zI,oL (aT n)];apply d;clear d D;refine cM [] (fun i _ H=>(∀k,k<i->n.at k=0)/\H.get 3=some (.cells (cG c) false)) 3 A1 rfl A1 ?_ ?_ ?_ ?_
 . exact zq
 . refine⟨fun k E=>absurd E (Al _),?_⟩;simp only[zI,seval]
 . rintro i f H F E T ⟨o,C⟩;refine aJ ?_;have J:i<=2:=by omega
   have Z:i+1<=3:=F;by_cases s:n.at i=0
   . have X:(n.at i != 0)=false:=(by simp[s]);simp only[↓zP,zG,seval,zI,T,E 13 rfl,aD,iC n F,aT,C,F,Z,X];refine⟨fun k E=>?_,trivial⟩;by_cases l:k=i
     . subst l;exact s
     exact o k A0
   have X:(n.at i != 0)=true:=(by simp[s]);simp only[↓zP,zG,seval,zI,T,E 13 rfl,E 7 rfl,aD,iC n F,aT,C,F,Z,iC c F,X];refine fC (kV (c.at i) 0 _) ?_;refine Tz ?_;refine fC (kV (n.at i) 0 _) ?_;rw[XD,XD]
   have w:IntKind.i64.wrap (yR (c.at i)*yR (n.at i))=yR (c.at i)*yR (n.at i):=gW (B:=1*1) (by rw[El];exact Be (PN _) (PN _)) A1
   simp only[↓zP,zG,seval,w];refine Rx ?_;rw[R,td n c F o s];rfl
 rintro f H E ⟨o,C⟩;refine Tx ?_;apply hK;refine Tz ?_;refine Rx ?_;rw[R,UG n c o];rfl
def yL(I:List Nat):List (List AV):=I.map fun(k:Nat)=>[AV.int .i64 (k:Int)]
theorem dQ(I:List Nat):(yL I).length=I.length:=by simp[yL]
variable{I:List Nat}
theorem pF(h:i<I.length):(yL I).getD i []=[AV.int .i64 (I[i]:Int)]:=eO h
def bI:Option Nat->Int
 |none=> -1
 |some k=>k
structure aKw (H H':aA):Prop where
 free:bH H'
 le:H.next<=H'.next
 same:∀j,j<H.next->H'.get j=H.get j
theorem TN{n:aC.V}{p:Nat->aC.V}{a:Nat}{I:List Nat}:∀(l:List Nat) (d:Option Nat) {b:Nat},l.foldl (jA n p a) d=some b->(∀k∈l,k∈I)->(∀c,d=some c->c∈I)->b∈I
 |[],d,b,h,_,hb=>hb b h
 |k::l,d,b,h,hl,hb=>by
  refine TN l _ h (fun x C=>hl x (As _ C)) fun c R=>?_;unfold jA at R
  grind
variable{p:Nat->aC.V}{n:aC.V}
theorem aHm{l:List Nat}{b:Nat}(h:l.foldl (jA n p a) none=some b)(U:∀k∈l,k∈I):b∈I:=
 TN l none h U fun c R=>by grind
theorem qg{t1:Nat}{o1 o2 o3:Bool}{M:Nat}(U:∀v∈l,bN M v)(hM:M<=2^18)(Q:l.length<=64){I:List Nat}(Ta:∀k∈I,k<l.length)(aj:I.length<=64){a:Nat}(ha:a<l.length)(q:aC.V×Int)
 {H:aA} (N:bH H) {i1 i2 i3:Nat} (R:i1<H.next) (b2:i2<H.next) (b3:i3<H.next) (g1:H.get i1=some (.cells [.bJ t1 1 (yL I)] o1)) (g2:H.get i2=some (.cells [.bJ tag 3 (bR l)] o2)) (g3:H.get i3=some (.cells (nJ q) o3)):
 ∃H',aKw H H'/\Sg 282 [.int .i64 a,.ref i1 0,.ref i2 0,.ref i3 0] H (.ret (.int .i64 (bI (Qu q.1 (fun i=>l.getD i V0) I a)))) H':=by
 suffices h:∃out H',(out=.ret (.int .i64 (bI (Qu q.1 (fun i=>l.getD i V0) I a)))/\aKw H H')/\Sg 282 [.int .i64 a,.ref i1 0,.ref i2 0,.ref i3 0] H out H' by obtain⟨_,H',⟨rfl,p⟩,hS⟩:=h;exact⟨H',p,hS⟩
 refine dM fit bKc (Ai rfl) ?_;unfold aXx;dsimp only;have y:∀k (h:k<l.length),l.getD k V0=l[k]:=fun k h=>by simp[List.getD,h]
 refine aM fun K hK=>?_;refine Tz ?_;apply hK;clear hK K;refine aM fun K hK=>?_;refine Tz ?_;apply hK;clear hK K;refine aM fun K hK=>?_;refine aM fun D cY=>?_;refine Ww ?_;apply cY;clear cY D;refine bS [6] (fun i vs H'=>vs=[.int .i64 (bI ((I.take i).foldl (jA q.1 (fun i=>l.getD i V0) a) none))]/\aKw H H') I.length A0 A1 ?_ ?_ ?_ ?_ ?_
 . exact zq
 . simp only[zB,seval,dQ]
 . exact⟨by simp only[sm,zB,seval];rfl,N,Ae _,fun j Y=>rfl⟩
 . rintro i f H1 F E T ⟨J,p⟩;simp only[zM] at J
   have C:(I.take (i+1)).foldl (jA q.1 (fun i=>l.getD i V0) a) none=jA q.1 (fun i=>l.getD i V0) a ((I.take i).foldl (jA q.1 (fun i=>l.getD i V0) a) none) I[i]:=by rw[Ao,Ic];simp[F]
   have ae:∀b,(I.take i).foldl (jA q.1 (fun i=>l.getD i V0) a) none=some b->b<l.length:=fun b X=>Ta b (aHm X (fun k E=>Cw E));have t:=pF F;have z:=Ta _ (Ac F);generalize I[i]=k at *;generalize (I.take i).foldl (jA q.1 (fun i=>l.getD i V0) a) none=d at *;refine aJ ?_;refine aM fun D cY=>?_;have :=E 12 rfl;have := @dQ;refine Ww ?_;apply cY;clear cY D;refine aM fun D cY=>?_;simp only[↓zP,zG,seval,zI,E 0 rfl];rw[C];by_cases o:k=a
   . have X:((k:Int)==(a:Int))=true:=(by simp[o]);have A:jA q.1 (fun i=>l.getD i V0) a d k=d:=if_pos o;simp only[zG,seval,X,A,J];exact⟨trivial,p⟩
   have X:((k:Int)==(a:Int))=false:=Zaf;simp only[zG,seval,X];apply cY;clear cY D;refine aM fun D cY=>?_
   cases d with
   |none=>have A:jA q.1 (fun i=>l.getD i V0) a none k=some k:=if_neg o;have hd:decide (bI none<0)=true:=rfl;simp only[↓zP,zG,seval,J,hd];rw[C,A];exact⟨by simp only[sm,zB,seval];rfl,p⟩
   |some b=>
    have A:jA q.1 (fun i=>l.getD i V0) a (some b) k=if better q.1 (fun i=>l.getD i V0) a b k then some k else some b:=if_neg o
    have hd:decide (bI (some b)<0)=false:=Ab (show ¬((b:Int)<0) by omega);have Xr:=ae b rfl;have O:bI (some b)=(b:Int):=rfl;simp only[↓zP,zG,seval,J,hd];apply cY;clear cY D;have gk:=cH z;have L:=cH Xr;have s:=cH ha;refine aM fun D cY=>?_;refine fT 2 A1 p.free.at2 fun w n2 P=>?_;have Z:=(P i2).trans ((p.same _ b2).trans g2);have W:=(P i3).trans ((p.same _ b3).trans g3);simp only[↓zP,zG,seval,zD,zI,E 2 rfl,E 0 rfl,O,Z,aD,aU,z,ha,gk,s,oL (aT l[k]),oL (aT l[a])];have nk:=U _ (Ac z);have nb:=U _ (Ac Xr);have na:=U _ (Ac ha);have vk:aC.sub l[k] l[a]=vec (fun i=>l.getD i V0) a k:=(by simp only[vec,y k z,y a ha]);have vb:aC.sub l[b] l[a]=vec (fun i=>l.getD i V0) a b:=(by simp only[vec,y b Xr,y a ha]);have a6:=gU nk na;have a7:=gU nb na;rw[vk] at a6;rw[vb] at a7;refine gH (GL nk na A0 _) ?_;rw[vk];simp only[↓zP,zG,seval,zD,zI,E 2 rfl,E 0 rfl,J,O,Z,aD,aU,ha,Xr,L,s,oL (aT l[a]),oL (aT l[b])];refine gH (GL nb na A0 _) ?_;rw[vb];have g:better q.1 (fun i=>l.getD i V0) a b k=(decide (aC.uH q.1 (aC.aY (vec (fun i=>l.getD i V0) a b) (vec (fun i=>l.getD i V0) a k))<0)||(decide (aC.uH q.1 (aC.aY (vec (fun i=>l.getD i V0) a b) (vec (fun i=>l.getD i V0) a k))=0)&&decide (aC.dot (vec (fun i=>l.getD i V0) a k) (vec (fun i=>l.getD i V0) a k)>aC.dot (vec (fun i=>l.getD i V0) a b) (vec (fun i=>l.getD i V0) a b)))):=rfl;generalize vec (fun i=>l.getD i V0) a k=to at *;generalize vec (fun i=>l.getD i V0) a b=wy at *;have ag:¬(H1.next=H1.next+1):=A0;have af:¬(H1.next+1=H1.next):=A0;have :=oL (aT to);have :=oL (aT wy);refine Ww ?_;apply cY;clear cY D;generalize hX:(((w.set H1.next _).set (H1.next+1) _).set H1.next _).set (H1.next+1) _=H3;have B:=Kx (i:=H1.next) hX;have u2:=Kv (i:=H1.next+1) hX
    have c:aKw H H3:=by
     have EC:H3.next=H1.next+2:=(by subst hX;simp only[aA.aZ,n2]);refine⟨fun j Y=>?_,by have :=p.le;omega,fun j Y=>?_⟩
     . have :=p.free j A0;subst hX;rw[aA.aH,if_neg A0,aA.aH,if_neg A0,aA.aH,if_neg A0,aA.aH,if_neg A0,P];exact this
     have ak:=p.le;have :=p.same j Y;subst hX;rw[aA.aH,if_neg A0,aA.aH,if_neg A0,aA.aH,if_neg A0,aA.aH,if_neg A0,P];exact this
    have u:=(c.same _ b3).trans g3;generalize H1.next=r at *;clear hX Z W P n2;have ad:(nJ q).take 3=cG q.1:=rfl;have ab:(nJ q).length=4:=rfl;have hB:(M+M)*(M+M)<=2^19*2^19:=Be A0 A0;refine aM fun D cY=>?_;simp only[↓zP,zG,seval,zI,E 3 rfl,B,u2,u,ad,ab,oL (aT to),oL (aT wy)];refine fC (aQz q.1 a7 a6 A0 _) ?_;generalize aC.uH q.1 (aC.aY wy to)=tn at *;refine Tz ?_;apply cY;clear cY D;refine aM fun D cY=>?_;refine Dz ?_;by_cases c1:tn<0
    . have S:=Ag c1;simp only[↓zP,zG,seval,zD,zI,S,aFi];apply cY;clear cY D;simp only[↓zP,zG,seval,zI];rw[C,A,if_pos (by rw[g,S];rfl)];exact⟨rfl,c⟩
    have S:=Ab c1;by_cases m:tn=0
    . have e:(tn==0)=true:=Dl.2 m;simp only[↓zP,zG,seval,zD,zI,S,e,B,oL (aT to)];refine gH (LU a6 a6 A0 _) ?_;simp only[↓zP,zG,seval,zD,zI,u2,oL (aT wy)];refine gH (LU a7 a7 A0 _) ?_;simp only[↓zP,zG,seval,zD,zI];apply cY;clear cY D;have d3:decide (tn=0)=true:=Ag m;by_cases c3:aC.dot wy wy<aC.dot to to
      . have x:decide (aC.dot to to>aC.dot wy wy)=true:=Ag c3;simp only[↓zP,zG,seval,zI,x];rw[C,A,if_pos (by rw[g,S,d3,x];rfl)];exact⟨rfl,c⟩
      have x:decide (aC.dot to to>aC.dot wy wy)=false:=Ab c3;simp only[↓zP,zG,seval,zI,x,J];rw[C,A,if_neg (by rw[g,S,d3,x];decide)];exact⟨rfl,c⟩
    have e:(tn==0)=false:=Cy.2 m;have d3:decide (tn=0)=false:=Ab m;simp only[↓zP,zG,seval,zD,zI,S,e];apply cY;clear cY D;simp only[↓zP,zG,seval,zI,J];rw[C,A,if_neg (by rw[g,S,d3];simp)];exact⟨rfl,c⟩
 rintro f H1 E ⟨J,p⟩;simp only[zM] at J;rw[Aq] at J;refine Tx ?_;apply hK;refine Wy ?_;refine Rx ?_;exact⟨rfl,p⟩
theorem UJ{s m:Nat}(h:aC.Way n p I s m (uM n p I))(i:Nat):Qu n p I (iter (uM n p I) i s)=some (iter (uM n p I) (i+1) s):=by obtain⟨S,u⟩:=h.side i;obtain⟨b,X,_⟩:=YT h.H S (u.crn h.H S) ⟨_,u.1,u.2.1⟩;show _=some ((aC.Qu n p I _).getD 0);rw[X];rfl
theorem aRi{s m:Nat}(h:aC.Way n p I s m (uM n p I)):2<=m:=by
 rcases Er 1 m with h1|h1
 . exact h1
 have a:m=1:=by have :=h.pos;omega
 have X:=h.back;rw[a] at X;exact absurd X (h.side 0).2.2.1
theorem wK{sz:Nat}{v:AV}{els:List (List AV)}(h:Own H sz v els)(A:H.next<=H'.next)(E:∀k,k<H.next->H.get k=some .tok->H'.get k=some .tok):Own H' sz v els:=by
 rcases h with ⟨rfl,rfl⟩|⟨k,rfl,O,Z⟩
 . exact .inl ⟨rfl,rfl⟩
 exact .inr ⟨k,rfl,by omega,E k O Z⟩
theorem Qz(a b:List Nat):yL (a++b)=yL a++yL b:=by simp[yL]
theorem JF(a:List Nat):fN (yL a)=true:=dP (fun _=>by simp only[sf]) a
theorem RJ(ht:Nat.blt tag 2=true){l:List aC.V}{M:Nat}(U:∀v∈l,bN M v)(hM:M<=2^18)(Q:l.length<=64){q:aC.V×Int}{B:Nat}(hq:bN B q.1)(hB:3*(B*M)<2^62)
 {L:List Nat} (hP:Poly (fun i=>l.getD i V0) l.length q.1 q.2 L) (H:aA):
 Sg 240 [.bJ tag 3 (bR l),.agg (nJ q)] H (.ret (.bJ 0 1 (yL L))) H:=by
 refine eP fit eE bJe (Ai rfl) (by simp only[sf,cT ht,ES]) ?_ H;obtain⟨Y,r,m,s,W,rfl⟩:=hP.ex;unfold aWz;dsimp only;have y:∀k (h:k<l.length),l.getD k V0=l[k]:=fun k h=>by simp[List.getD,h]
 have p4:(nJ q).length=4:=rfl;have p3:(nJ q).take 3=cG q.1:=rfl;have P:(nJ q).getD 3 aB=.int .i64 q.2:=rfl;refine bP ?_;refine Ty ?_;refine fW ?_;refine Ty ?_;refine bQ ?_;refine aM fun K hK=>?_;refine bP ?_;refine Ty ?_;refine bQ ?_;generalize Xw:iE (fun i=>l.getD i V0) l.length q.1 q.2=I at *;have h0:bH (((aA.mk 0 .nil |>.alloc (.cells [.bJ tag 3 (bR l)] false)).alloc (.cells (nJ q) false)).alloc (.cells [.bE] false)):=(((bH.nil 0).alloc _).alloc _).alloc _;refine bS [] (fun i vs H'=>∃v,H'.get 2=some (.cells [v] false)/\Own H' 1 v (yL ((List.range i).filter fun k=>decide (aC.dot q.1 (l.getD k V0)=q.2)))/\H'.get 0=some (.cells [.bJ tag 3 (bR l)] false)/\H'.get 1=some (.cells (nJ q) false)/\3<=H'.next/\bH H') l.length A0 A1 ?_ ?_ ?_ ?_ ?_
 . exact zq
 . exact ZbM
 . exact⟨.bE,by simp only[zI,seval],.nil _ _,by simp only[zI,seval],by simp only[zI,seval],by simp only[zI,seval],h0⟩
 . rintro i f H1 F E T ⟨v,d,S,g0,g,A,N⟩;have t:=cH F;have TU:=y i F;have hx:=U _ (Ac F)
   have ay:(List.range (i+1)).filter (fun k=>decide (aC.dot q.1 (l.getD k V0)=q.2))=(List.range i).filter (fun k=>decide (aC.dot q.1 (l.getD k V0)=q.2))++(if aC.dot q.1 l[i]=q.2 then [i] else []):=by rw[Ds,Jd];congr 1;simp only[Jw,Kd,TU,Br]
   have AU:((List.range i).filter fun k=>decide (aC.dot q.1 (l.getD k V0)=q.2)).length<=64:=by have :=Db (fun k=>decide (aC.dot q.1 (l.getD k V0)=q.2)) (List.range i);rw[Bv] at this;omega
   rw[ay];generalize (List.range i).filter (fun k=>decide (aC.dot q.1 (l.getD k V0)=q.2))=af at *;generalize l[i]=x at *;have ab:¬(1=H1.next):=A0;have a7:¬(2=H1.next):=A0;have Zc:¬(0=H1.next):=A0;refine aJ ?_;refine bP ?_;simp only[↓zP,zJ,seval,T,E 11 rfl,aD,aU,F,t,oL (aT x)];refine fW ?_;refine Dz ?_;have :=E 3 rfl;have :=oL (aT x);have :=LU hq hx hB;refine Wy ?_;refine bQ ?_;generalize G:(H1.alloc _).set H1.next _=o;have b:o.get 0=some (.cells [.bJ tag 3 (bR l)] false):=Zcc;have e:o.get 1=some (.cells (nJ q) false):=(by subst G;rw[aA.aH,if_neg ab,aA.aI,if_neg ab];exact g);have y2:o.get 2=some (.cells [v] false):=(by subst G;rw[aA.aH,if_neg a7,aA.aI,if_neg a7];exact d);have O:3<=o.next:=Zan;have yf:bH o:=by subst G;exact(N.alloc _).set A2 _
   have yo:Own o 1 v (yL af):=by refine wK S Zan fun k h1 Z=>?_;subst G;rw[aA.aH,if_neg A0,aA.aI,if_neg A0];exact Z
   by_cases R:aC.dot q.1 x=q.2
   . have X:(aC.dot q.1 x==q.2)=true:=Dl.2 R;obtain⟨H5,z1,c,C,a,z5⟩:=Has.push (.inr yo) (ys:=[[AV.int .i64 (i:Int)]]) (bytes:=8) rfl (by simp only[dQ,Ba,Ca];omega);simp only[↓zP,zJ,seval,X,E 5 rfl,y2];rw[show dJ o 1 (.bJ 1 1 [[.int .i64 (i:Int)]])=some [[.int .i64 (i:Int)]] from rfl];have w2:=(a 2 A0 (by rw[y2];simp)).trans y2;simp only[z1,bX,zJ,seval,w2];rw[if_pos R,Qz];exact⟨_,rfl,.inr ⟨o.next,rfl,by simp only[aA.aZ];omega,by rw[aA.aH,if_neg A0];exact C⟩,(a 0 A0 (by rw[b];simp)).trans b,(a 1 A0 (by rw[e];simp)).trans e,by omega,(z5 yf).set A0 _⟩
   have X:(aC.dot q.1 x==q.2)=false:=Cy.2 R;simp only[↓zP,zG,seval,X];rw[if_neg R,Bx];exact⟨v,y2,yo,b,e,O,yf⟩
 rintro f H1 E ⟨v,d,S,g0,g,A,N⟩;have e0:(List.range l.length).filter (fun k=>decide (aC.dot q.1 (l.getD k V0)=q.2))=I:=Xw;rw[e0] at S;refine Tx ?_;apply hK;clear hK K;have z:yL I≠[]:=by rw[s];simp[yL]
 rcases S with ⟨_,h⟩|⟨tk,rfl,aj,ag⟩
 . exact absurd h z
 have ae:I.length<=64:=by have :=Db (fun k=>decide (aC.dot q.1 (l.getD k V0)=q.2)) (List.range l.length);rw[e0,Bv] at this;omega
 have fF:∀k∈I,k<l.length:=fun k E=>by rw[<-Xw] at E;exact(cJ.1 E).1
 have dj:(yL I).getD 0 []=[AV.int .i64 (Y:Int)]:=by rw[s];rfl
 have a0:asNat (.int .i64 0)=some 0:=rfl;have JM:0<(yL I).length:=by rw[s];simp[yL]
 have nx:∀j,j<3->¬(j=H1.next):=fun j hj=>by omega
 have ak:=fF _ W.hs;refine bP ?_;simp only[↓zP,zJ,seval,E 5 rfl,E 2 rfl,E 3 rfl];refine fW ?_;simp only[↓zP,zJ,seval,E 5 rfl,d,JM,dj,a0];refine bQ ?_;obtain⟨w,p,u⟩:=qg (tag:=tag) U hM Q fF ae ak q N (i1:=2) (i2:=0) (i3:=1) A0 A0 A0 d g0 g;have ad:=UJ W 0;change aC.Qu _ _ _ Y=_ at ad;rw[ad] at u;refine aM fun K hK=>?_;refine bP ?_;simp only[↓zP,zJ,seval,E 5 rfl,d,JM,dj,a0];refine AX (fs:=[]) (cs:=[.ref 2 0,.ref 0 0,.ref 1 0]) A1 Zbx (by simp only[sm,zB,seval];rfl) u ?_;refine Tz ?_;refine bQ ?_;refine aJ ?_
 refine kJ [9,10] (fun M' vs H'=>∃i,i<m/\M'=m -i/\∃v,vs=[v,.int .i64 (iter (uM q.1 (fun i=>l.getD i V0) I) (i+1) Y:Nat)]/\Has H' 1 v (yL ((List.range (i+1)).map fun i=>iter (uM q.1 (fun i=>l.getD i V0) I) i Y))/\(0<i->v≠ .bJ 1 1 (yL ((List.range (i+1)).map fun i=>iter (uM q.1 (fun i=>l.getD i V0) I) i Y)))/\
  H'.get 2=some (.cells [.bJ (tk+2) 1 (yL I)] false)/\H'.get 0=some (.cells [.bJ tag 3 (bR l)] false)/\H'.get 1=some (.cells (nJ q) false)/\3<=H'.next/\bH H') m (by rfl) ?_ ?_
 . refine⟨0,W.pos,rfl,_,by simp only[sm,zB,seval];rfl,.inl rfl,fun h=>absurd h (Ec 0),(p.same 2 A0).trans d,(p.same 0 A0).trans g0,(p.same 1 A0).trans g,by have :=p.le;omega,p.free⟩
 clear u p w d g0 g N A aj ag;rintro M' f2 w fI ⟨i,F,rfl,v,J,S,ar,d,g0,g,A,N⟩;simp only[zM] at J;obtain⟨v9,a6⟩:=J;refine aM fun D cY=>?_;refine bP ?_;simp only[↓zP,zJ,seval,fI 5 rfl,E 5 rfl,d,JM,dj,a0,a6];refine bQ ?_;by_cases ZW:i+1=m
 . have X:((iter (uM q.1 (fun i=>l.getD i V0) I) (i+1) Y:Int) != (Y:Int))=false:=by rw[ZW,W.back];simp
   have Z:=aRi W;simp only[↓zP,zG,seval,X];apply hK;clear hK K cY D;simp only[↓zP,zG,seval,v9];refine Rx ?_;rw[<-ZW];exact⟨v,0,rfl,fun nw=>S.shut (by simp[yL]) (ar A0) (JF _) nw⟩
 have X:((iter (uM q.1 (fun i=>l.getD i V0) I) (i+1) Y:Int) != (Y:Int))=true:=by have :=W.first (i+1) A0 A0;simp only[Gc,ne_eq];omega
 simp only[↓zP,zG,seval,X];apply cY;clear cY D;obtain⟨an,az⟩:=W.side (i+1);have Og:=fF _ an;have yw:=UJ W (i+1);have aE:=W.le;have aq:((List.range (i+1)).map fun i=>iter (uM q.1 (fun i=>l.getD i V0) I) i Y).length=i+1:=by simp
 have al:(List.range (i+1+1)).map (fun i=>iter (uM q.1 (fun i=>l.getD i V0) I) i Y)=(List.range (i+1)).map (fun i=>iter (uM q.1 (fun i=>l.getD i V0) I) i Y)++[iter (uM q.1 (fun i=>l.getD i V0) I) (i+1) Y]:=by rw[Ds (n:=i+1),Cd];rfl
 obtain⟨H5,z1,c,C,a,z5⟩:=S.push (ys:=[[AV.int .i64 (iter (uM q.1 (fun i=>l.getD i V0) I) (i+1) Y:Nat)]]) (bytes:=8) rfl (by rw[dQ,aq,Ba,Ca];omega);have w2:=(a 2 A0 (by rw[d];simp)).trans d;have w0:=(a 0 A0 (by rw[g0];simp)).trans g0;have w1:=(a 1 A0 (by rw[g];simp)).trans g;obtain⟨H6,p,u⟩:=qg (tag:=tag) U hM Q fF ae Og q (z5 N) (i1:=2) (i2:=0) (i3:=1) A0 A0 A0 w2 w0 w1;rw[yw] at u;refine bP ?_;refine aJ ?_;simp only[↓zP,zJ,seval,v9,a6];rw[show ∀x:AV,dJ w 1 (.bJ 1 1 [[x]])=some [[x]] from fun _=>rfl];simp only[z1,bX,seval];refine bQ ?_;simp only[↓zP,zJ,seval,fI 8 rfl,a6];refine AX (fs:=[]) (cs:=[.ref 2 0,.ref 0 0,.ref 1 0]) A1 (by rfl) (by rfl) u ?_;refine Tz ?_;refine⟨m -(i+1),by omega,i+1,by omega,rfl,.bJ (w.next+2) 1 _,rfl,?_,fun _ h=>by injection h with h;omega,(p.same 2 A0).trans w2,(p.same 0 A0).trans w0,(p.same 1 A0).trans w1,by have :=p.le;omega,p.free⟩;rw[al,Qz];exact .inr (.inr ⟨w.next,rfl,by have :=p.le;omega,(p.same _ A0).trans C⟩)
end Go.Proofs.YtogfcjbgeebfkaaGreatDoor
