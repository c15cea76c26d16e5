/-
  Part of the proof of statement 7
-/
import Derived.Test.YtogfcjbgeebfkaaGreatDoorA13
import Derived.Test.YtogfcjbgeebfkaaGreatDoorA14
import Derived.Test.YtogfcjbgeebfkaaGreatDoorA07
import Derived.Test.YtogfcjbgeebfkaaGreatDoorA12
import Derived.Test.YtogfcjbgeebfkaaGreatDoorA05
import Derived.Test.YtogfcjbgeebfkaaGreatDoorProg
import Derived.Shelf.SlSortCmp.NoneTotal
import Derived.Ground.SlsfProg
set_option linter.unusedVariables false
set_option linter.unusedSimpArgs false
set_option maxRecDepth 100000
set_option maxHeartbeats 16000000
namespace Go.Proofs
open Go.Shelf
def Tryz.ug:Go.Shelf.Ren:=⟨fun |6=>248|15=>288|14=>287|28=>271|29=>321|20=>313|21=>314|22=>315|23=>316|24=>317|25=>318|26=>319|27=>320|46=>345|47=>346|48=>347|49=>348|50=>349|57=>361|n=>n,fun |22=>199|24=>202|25=>252|3=>3|39=>151|0=>0|53=>26|55=>149|4=>4|46=>311|45=>310|50=>164|5=>5|9=>9|66=>329|70=>333|76=>347|77=>348|n=>n,fun |n=>n⟩
theorem Tryz.aEt:Go.Proofs.SlLaysF0.n6 Tryz.prog Tryz.ug:={
 mixed:=by kernel_rfl
 f6:=⟨Tryz.f248.name,by decide,Tryz.func248.trans (Ao some (by kernel_rfl))⟩
 f14:=⟨Tryz.f287.name,by decide,Tryz.func287.trans (Ao some (by kernel_rfl))⟩
 f15:=Tryz.func288.trans (Ao some (by kernel_rfl))
 f20:=⟨Tryz.f313.name,by decide,Tryz.func313.trans (Ao some (by kernel_rfl))⟩
 f21:=⟨Tryz.f314.name,by decide,Tryz.func314.trans (Ao some (by kernel_rfl))⟩
 f22:=⟨Tryz.f315.name,by decide,Tryz.func315.trans (Ao some (by kernel_rfl))⟩
 f23:=⟨Tryz.f316.name,by decide,Tryz.func316.trans (Ao some (by kernel_rfl))⟩
 f24:=⟨Tryz.f317.name,by decide,Tryz.func317.trans (Ao some (by kernel_rfl))⟩
 f25:=⟨Tryz.f318.name,by decide,Tryz.func318.trans (Ao some (by kernel_rfl))⟩
 f26:=⟨Tryz.f319.name,by decide,Tryz.func319.trans (Ao some (by kernel_rfl))⟩
 f27:=⟨Tryz.f320.name,by decide,Tryz.func320.trans (Ao some (by kernel_rfl))⟩
 f28:=Tryz.func271.trans (Ao some (by kernel_rfl))
 f29:=Tryz.func321.trans (Ao some (by kernel_rfl))
 f46:=⟨Tryz.f345.name,by decide,Tryz.func345.trans (Ao some (by kernel_rfl))⟩
 f47:=Tryz.func346.trans (Ao some (by kernel_rfl))
 f48:=Tryz.func347.trans (Ao some (by kernel_rfl))
 f49:=⟨Tryz.f348.name,by decide,Tryz.func348.trans (Ao some (by kernel_rfl))⟩
 f50:=⟨Tryz.f349.name,by decide,Tryz.func349.trans (Ao some (by kernel_rfl))⟩
 f57:=⟨Tryz.f361.name,by decide,Tryz.func361.trans (Ao some (by kernel_rfl))⟩
 t0:=Tryz.underlying0
 a0:=Tryz.isAgg0
 z0:=Tryz.sizeOf0
 v0:=Tryz.zeroValue0
 t3:=Tryz.underlying3
 a3:=Tryz.isAgg3
 z3:=Tryz.sizeOf3
 v3:=Tryz.zeroValue3
 t4:=Tryz.underlying4
 a4:=Tryz.isAgg4
 z4:=Tryz.sizeOf4
 v4:=Tryz.zeroValue4
 t5:=Tryz.underlying5
 a5:=Tryz.isAgg5
 z5:=Tryz.sizeOf5
 v5:=Tryz.zeroValue5
 t9:=Tryz.underlying9
 a9:=Tryz.isAgg9
 z9:=Tryz.sizeOf9
 v9:=Tryz.zeroValue9
 t22:=Tryz.underlying199
 a22:=Tryz.isAgg199
 z22:=Tryz.sizeOf199
 v22:=Tryz.zeroValue199
 t25:=Tryz.underlying252
 a25:=Tryz.isAgg252
 z25:=Tryz.sizeOf252
 v25:=Tryz.zeroValue252
 t39:=Tryz.underlying151
 a39:=Tryz.isAgg151
 z39:=Tryz.sizeOf151
 v39:=Tryz.zeroValue151
 t45:=Tryz.underlying310
 a45:=Tryz.isAgg310
 z45:=Tryz.sizeOf310
 v45:=Tryz.zeroValue310
 t46:=Tryz.underlying311
 a46:=Tryz.isAgg311
 z46:=Tryz.sizeOf311
 v46:=Tryz.zeroValue311
 t50:=Tryz.underlying164
 a50:=Tryz.isAgg164
 z50:=Tryz.sizeOf164
 v50:=Tryz.zeroValue164
 t53:=Tryz.underlying26
 a53:=Tryz.isAgg26
 z53:=Tryz.sizeOf26
 v53:=Tryz.zeroValue26
 t55:=Tryz.underlying149
 a55:=Tryz.isAgg149
 z55:=Tryz.sizeOf149
 v55:=Tryz.zeroValue149
 t66:=Tryz.underlying329
 a66:=Tryz.isAgg329
 z66:=Tryz.sizeOf329
 v66:=Tryz.zeroValue329
 t70:=Tryz.underlying333
 a70:=Tryz.isAgg333
 z70:=Tryz.sizeOf333
 v70:=Tryz.zeroValue333
 t76:=Tryz.underlying347
 a76:=Tryz.isAgg347
 z76:=Tryz.sizeOf347
 v76:=Tryz.zeroValue347
 t77:=Tryz.underlying348
 a77:=Tryz.isAgg348
 z77:=Tryz.sizeOf348
 v77:=Tryz.zeroValue348}
def Tryz.ue:Go.Shelf.Ren:=⟨fun |6=>284|15=>288|14=>312|28=>271|29=>321|20=>337|21=>338|22=>339|23=>340|24=>341|25=>342|26=>343|27=>344|46=>358|47=>346|48=>347|49=>359|50=>360|57=>372|n=>n,fun |22=>194|24=>23|25=>285|3=>3|39=>151|0=>0|53=>26|55=>149|4=>4|46=>311|45=>310|50=>164|5=>5|9=>9|66=>329|70=>333|76=>347|77=>348|n=>n,fun |n=>n⟩
theorem Tryz.aOe:Go.Proofs.SlLaysF0.n6 Tryz.prog Tryz.ue:={
 mixed:=by kernel_rfl
 f6:=⟨Tryz.f284.name,by decide,Tryz.func284.trans (Ao some (by kernel_rfl))⟩
 f14:=⟨Tryz.f312.name,by decide,Tryz.func312.trans (Ao some (by kernel_rfl))⟩
 f15:=Tryz.func288.trans (Ao some (by kernel_rfl))
 f20:=⟨Tryz.f337.name,by decide,Tryz.func337.trans (Ao some (by kernel_rfl))⟩
 f21:=⟨Tryz.f338.name,by decide,Tryz.func338.trans (Ao some (by kernel_rfl))⟩
 f22:=⟨Tryz.f339.name,by decide,Tryz.func339.trans (Ao some (by kernel_rfl))⟩
 f23:=⟨Tryz.f340.name,by decide,Tryz.func340.trans (Ao some (by kernel_rfl))⟩
 f24:=⟨Tryz.f341.name,by decide,Tryz.func341.trans (Ao some (by kernel_rfl))⟩
 f25:=⟨Tryz.f342.name,by decide,Tryz.func342.trans (Ao some (by kernel_rfl))⟩
 f26:=⟨Tryz.f343.name,by decide,Tryz.func343.trans (Ao some (by kernel_rfl))⟩
 f27:=⟨Tryz.f344.name,by decide,Tryz.func344.trans (Ao some (by kernel_rfl))⟩
 f28:=Tryz.func271.trans (Ao some (by kernel_rfl))
 f29:=Tryz.func321.trans (Ao some (by kernel_rfl))
 f46:=⟨Tryz.f358.name,by decide,Tryz.func358.trans (Ao some (by kernel_rfl))⟩
 f47:=Tryz.func346.trans (Ao some (by kernel_rfl))
 f48:=Tryz.func347.trans (Ao some (by kernel_rfl))
 f49:=⟨Tryz.f359.name,by decide,Tryz.func359.trans (Ao some (by kernel_rfl))⟩
 f50:=⟨Tryz.f360.name,by decide,Tryz.func360.trans (Ao some (by kernel_rfl))⟩
 f57:=⟨Tryz.f372.name,by decide,Tryz.func372.trans (Ao some (by kernel_rfl))⟩
 t0:=Tryz.underlying0
 a0:=Tryz.isAgg0
 z0:=Tryz.sizeOf0
 v0:=Tryz.zeroValue0
 t3:=Tryz.underlying3
 a3:=Tryz.isAgg3
 z3:=Tryz.sizeOf3
 v3:=Tryz.zeroValue3
 t4:=Tryz.underlying4
 a4:=Tryz.isAgg4
 z4:=Tryz.sizeOf4
 v4:=Tryz.zeroValue4
 t5:=Tryz.underlying5
 a5:=Tryz.isAgg5
 z5:=Tryz.sizeOf5
 v5:=Tryz.zeroValue5
 t9:=Tryz.underlying9
 a9:=Tryz.isAgg9
 z9:=Tryz.sizeOf9
 v9:=Tryz.zeroValue9
 t22:=Tryz.underlying194
 a22:=Tryz.isAgg194
 z22:=Tryz.sizeOf194
 v22:=Tryz.zeroValue194
 t25:=Tryz.underlying285
 a25:=Tryz.isAgg285
 z25:=Tryz.sizeOf285
 v25:=Tryz.zeroValue285
 t39:=Tryz.underlying151
 a39:=Tryz.isAgg151
 z39:=Tryz.sizeOf151
 v39:=Tryz.zeroValue151
 t45:=Tryz.underlying310
 a45:=Tryz.isAgg310
 z45:=Tryz.sizeOf310
 v45:=Tryz.zeroValue310
 t46:=Tryz.underlying311
 a46:=Tryz.isAgg311
 z46:=Tryz.sizeOf311
 v46:=Tryz.zeroValue311
 t50:=Tryz.underlying164
 a50:=Tryz.isAgg164
 z50:=Tryz.sizeOf164
 v50:=Tryz.zeroValue164
 t53:=Tryz.underlying26
 a53:=Tryz.isAgg26
 z53:=Tryz.sizeOf26
 v53:=Tryz.zeroValue26
 t55:=Tryz.underlying149
 a55:=Tryz.isAgg149
 z55:=Tryz.sizeOf149
 v55:=Tryz.zeroValue149
 t66:=Tryz.underlying329
 a66:=Tryz.isAgg329
 z66:=Tryz.sizeOf329
 v66:=Tryz.zeroValue329
 t70:=Tryz.underlying333
 a70:=Tryz.isAgg333
 z70:=Tryz.sizeOf333
 v70:=Tryz.zeroValue333
 t76:=Tryz.underlying347
 a76:=Tryz.isAgg347
 z76:=Tryz.sizeOf347
 v76:=Tryz.zeroValue347
 t77:=Tryz.underlying348
 a77:=Tryz.isAgg348
 z77:=Tryz.sizeOf348
 v77:=Tryz.zeroValue348}
def Tryz.uh:Go.Shelf.Ren:=⟨fun |6=>323|15=>288|14=>351|28=>271|29=>321|20=>362|21=>363|22=>364|23=>365|24=>366|25=>367|26=>368|27=>369|46=>373|47=>346|48=>347|49=>374|50=>375|57=>376|n=>n,fun |22=>63|24=>33|25=>239|3=>3|39=>151|0=>0|53=>26|55=>149|4=>4|46=>311|45=>310|50=>164|5=>5|9=>9|66=>329|70=>333|76=>347|77=>348|n=>n,fun |n=>n⟩
theorem Tryz.aEv:Go.Proofs.SlLaysF0.n6 Tryz.prog Tryz.uh:={
 mixed:=by kernel_rfl
 f6:=⟨Tryz.f323.name,by decide,Tryz.func323.trans (Ao some (by kernel_rfl))⟩
 f14:=⟨Tryz.f351.name,by decide,Tryz.func351.trans (Ao some (by kernel_rfl))⟩
 f15:=Tryz.func288.trans (Ao some (by kernel_rfl))
 f20:=⟨Tryz.f362.name,by decide,Tryz.func362.trans (Ao some (by kernel_rfl))⟩
 f21:=⟨Tryz.f363.name,by decide,Tryz.func363.trans (Ao some (by kernel_rfl))⟩
 f22:=⟨Tryz.f364.name,by decide,Tryz.func364.trans (Ao some (by kernel_rfl))⟩
 f23:=⟨Tryz.f365.name,by decide,Tryz.func365.trans (Ao some (by kernel_rfl))⟩
 f24:=⟨Tryz.f366.name,by decide,Tryz.func366.trans (Ao some (by kernel_rfl))⟩
 f25:=⟨Tryz.f367.name,by decide,Tryz.func367.trans (Ao some (by kernel_rfl))⟩
 f26:=⟨Tryz.f368.name,by decide,Tryz.func368.trans (Ao some (by kernel_rfl))⟩
 f27:=⟨Tryz.f369.name,by decide,Tryz.func369.trans (Ao some (by kernel_rfl))⟩
 f28:=Tryz.func271.trans (Ao some (by kernel_rfl))
 f29:=Tryz.func321.trans (Ao some (by kernel_rfl))
 f46:=⟨Tryz.f373.name,by decide,Tryz.func373.trans (Ao some (by kernel_rfl))⟩
 f47:=Tryz.func346.trans (Ao some (by kernel_rfl))
 f48:=Tryz.func347.trans (Ao some (by kernel_rfl))
 f49:=⟨Tryz.f374.name,by decide,Tryz.func374.trans (Ao some (by kernel_rfl))⟩
 f50:=⟨Tryz.f375.name,by decide,Tryz.func375.trans (Ao some (by kernel_rfl))⟩
 f57:=⟨Tryz.f376.name,by decide,Tryz.func376.trans (Ao some (by kernel_rfl))⟩
 t0:=Tryz.underlying0
 a0:=Tryz.isAgg0
 z0:=Tryz.sizeOf0
 v0:=Tryz.zeroValue0
 t3:=Tryz.underlying3
 a3:=Tryz.isAgg3
 z3:=Tryz.sizeOf3
 v3:=Tryz.zeroValue3
 t4:=Tryz.underlying4
 a4:=Tryz.isAgg4
 z4:=Tryz.sizeOf4
 v4:=Tryz.zeroValue4
 t5:=Tryz.underlying5
 a5:=Tryz.isAgg5
 z5:=Tryz.sizeOf5
 v5:=Tryz.zeroValue5
 t9:=Tryz.underlying9
 a9:=Tryz.isAgg9
 z9:=Tryz.sizeOf9
 v9:=Tryz.zeroValue9
 t22:=Tryz.underlying63
 a22:=Tryz.isAgg63
 z22:=Tryz.sizeOf63
 v22:=Tryz.zeroValue63
 t25:=Tryz.underlying239
 a25:=Tryz.isAgg239
 z25:=Tryz.sizeOf239
 v25:=Tryz.zeroValue239
 t39:=Tryz.underlying151
 a39:=Tryz.isAgg151
 z39:=Tryz.sizeOf151
 v39:=Tryz.zeroValue151
 t45:=Tryz.underlying310
 a45:=Tryz.isAgg310
 z45:=Tryz.sizeOf310
 v45:=Tryz.zeroValue310
 t46:=Tryz.underlying311
 a46:=Tryz.isAgg311
 z46:=Tryz.sizeOf311
 v46:=Tryz.zeroValue311
 t50:=Tryz.underlying164
 a50:=Tryz.isAgg164
 z50:=Tryz.sizeOf164
 v50:=Tryz.zeroValue164
 t53:=Tryz.underlying26
 a53:=Tryz.isAgg26
 z53:=Tryz.sizeOf26
 v53:=Tryz.zeroValue26
 t55:=Tryz.underlying149
 a55:=Tryz.isAgg149
 z55:=Tryz.sizeOf149
 v55:=Tryz.zeroValue149
 t66:=Tryz.underlying329
 a66:=Tryz.isAgg329
 z66:=Tryz.sizeOf329
 v66:=Tryz.zeroValue329
 t70:=Tryz.underlying333
 a70:=Tryz.isAgg333
 z70:=Tryz.sizeOf333
 v70:=Tryz.zeroValue333
 t76:=Tryz.underlying347
 a76:=Tryz.isAgg347
 z76:=Tryz.sizeOf347
 v76:=Tryz.zeroValue347
 t77:=Tryz.underlying348
 a77:=Tryz.isAgg348
 z77:=Tryz.sizeOf348
 v77:=Tryz.zeroValue348}
end Go.Proofs
namespace Go.Proofs.YtogfcjbgeebfkaaGreatDoor
open Go Go.Av Go.aD
attribute [local congr] aY aS aV aQ bD aX aW aH bE
attribute [local irreducible] FC bT eX
theorem CB(p q:aD.V×Int):Wl p q<0↔gV p.1 q.1:=by
 unfold Wl orZ uE gV
 rcases Ev p.1.x q.1.x with h|h|h
 . simp[h]
 . rcases Ev p.1.y q.1.y with h2|h2|h2
   . simp[h,h2]
   . rcases Ev p.1.z q.1.z with h3|h3|h3
     . simp[h,h2,h3]
     . simp[h,h2,h3]
     simp[h,h2,h3,Km h3]
   simp[h,h2,Km h2,Jp h2]
 simp[h,Km h,Jp h]
def plV(q:aD.V×Int):CX 4:=⟨[q.1.x,q.1.y,q.1.z,q.2],rfl⟩
def xd(x:CX 4):aD.V×Int:=(⟨x.1.getD 0 0,x.1.getD 1 0,x.1.getD 2 0⟩,x.1.getD 3 0)
theorem aLo(q:aD.V×Int):xd (plV q)=q:=rfl
theorem UR(x:CX 4):plV (xd x)=x:=by
 obtain⟨l,hl⟩:=x
 match l,hl with
 |[a,b,c,d],_=>rfl
theorem Vi(q:aD.V×Int):Vh (plV q)=jG q:=rfl
theorem QG:∀S:List (aD.V×Int),(mO (S.map plV)).map (AV.int .i64)=(S.map jG).flatten
 |[]=>rfl
 |q::S=>by have :=QG S;simp only[mO,Cq,Ee,Cn,Cd] at this ⊢;rw[this];rfl
theorem bFw:Go.Sort.SWO (Go.Proofs.ltOf fun x y:CX 4=>Wl (xd x) (xd y)) where
 irrefl x:=by simp only[Go.Proofs.ltOf,CB,Cb];exact gV.gd _
 trans x y z h1 h2:=by simp only[Go.Proofs.ltOf,CB,Bf] at *;exact gV.trans h1 h2
 ntrans x y z h1 h2:=by simp only[Go.Proofs.ltOf,CB,Cb] at *;unfold gV at *;omega
def uV(K:List (aD.V×Int)):List (AV×AV):=K.map fun q=>(.agg (jG q),.bool true)
theorem nq(p q:aD.V×Int):cT [.i,.i,.i,.i] (jG p) (jG q)=some (decide (p=q)):=by obtain⟨⟨a,b,c⟩,d⟩:=p;obtain⟨⟨a',b',c'⟩,d'⟩:=q;simp only[jG,cT,if_true,Cf,Af,V.mk.injEq,Kg];congr 1;rw[Di];simp[and_assoc]
theorem qk{bs:List Nat}(h:bs.Nodup){i j:Nat}(hi:i<bs.length)(hj:j<bs.length)(e:bs.getD i 0=bs.getD j 0):i=j:=by
 simp only[List.getD,Ac hi,Ac hj,Bl] at e;have hp:=Gk.1 h
 rcases Kb i j with h1|h1|h1
 . exact absurd e (hp i j hi hj h1)
 . exact h1
 exact absurd e.symm (hp j i hj hi h1)
theorem dt(q:aD.V×Int):∀(K:List (aD.V×Int)) (n:Nat),(q∈K->∃i,mI (.f [.i,.i,.i,.i]) (.agg (jG q)) (uV K) n=some (some (i,.bool true)))/\(q∉K->mI (.f [.i,.i,.i,.i]) (.agg (jG q)) (uV K) n=some none)
 |[],n=>⟨fun h=>(nomatch h),fun _=>rfl⟩
 |x::K,n=>by
  obtain⟨h1,h2⟩:=dt q K (n+1);simp only[uV,Cq,mI,sameKey,nq] at h1 h2 ⊢;by_cases e:q=x
  . subst e;simp
  simp only[e,Hi,Am,false_or];exact⟨h1,h2⟩
theorem IE(v:aD.V):cT [.i,.i,.i] (cE v) [.int .i64 0,.int .i64 0,.int .i64 0]=some (decide (v=V0)):=by obtain⟨a,b,c⟩:=v;simp only[cE,cT,if_true,Cf,V0,V.mk.injEq,Kg];congr 1;rw[Di];simp
theorem JT{l:List aD.V}{q:aD.V×Int}:EC l q=true↔(∀k,k<l.length->aD.dot q.1 (l.getD k V0)<=q.2)/\∃k,k<l.length/\aD.dot q.1 (l.getD k V0)<q.2:=by
 have hg:∀k (h:k<l.length),l.getD k V0=l[k]:=fun k h=>by simp[List.getD,h]
 simp only[EC,Ak,Bg,Bf,Cs,<-Fs,Dh];constructor
 . rintro⟨h1,h2⟩;refine⟨fun k hk=>by rw[hg k hk];exact h1 _ (Ah hk),?_⟩;refine Cj fun hc=>h2 fun v hv=>?_;obtain⟨k,hk,rfl⟩:=Dt hv;have a1:=h1 _ (Ah hk);have a2:¬aD.dot q.1 l[k]<q.2:=fun hh=>hc ⟨k,hk,by rw[hg k hk];exact hh⟩;omega
 rintro⟨h1,k,hk,h2⟩;refine⟨fun v hv=>?_,fun h=>?_⟩
 . obtain⟨k,hk,rfl⟩:=Dt hv;have :=h1 k hk
   rwa [hg k hk] at this
 have :=h _ (Ah hk);rw[hg k hk] at h2;omega
structure Found (l:List aD.V) (i j k:Nat) (K:List (aD.V×Int)) (H:aA):Prop where
 nd:K.Nodup
 is:∀q∈K,nA (fun i=>l.getD i V0) l.length q.1 q.2
 tr:sE (fun i=>l.getD i V0) l.length i j k K
 mp:H.get 0=some (.map (uV K))
 nx:1<=H.next
 fr:bM H
theorem Found.heap{l:List aD.V}{i j k:Nat}{K:List (aD.V×Int)}{H H':aA}(h:Found l i j k K H)(h0:H'.get 0=H.get 0)(hn:H.next<=H'.next)(hf:bM H'):Found l i j k K H':=
 ⟨h.nd,h.is,h.tr,h0.trans h.mp,By h.nx hn,hf⟩
theorem Found.to{l:List aD.V}{i j k i' j' k':Nat}{K:List (aD.V×Int)}{H:aA}(h:Found l i j k K H)(ht:sE (fun i=>l.getD i V0) l.length i' j' k' K):Found l i' j' k' K H:=⟨h.nd,h.is,ht,h.mp,h.nx,h.fr⟩
theorem UK:AJ Tryz.prog 248:=⟨_,Tryz.func248,by kernel_rfl,by kernel_rfl⟩
theorem aEu(d:List (CX 4))(hd:d.length<4611686018427387904):
 ∃d':List (CX 4),d'.Perm d/\(d'.Pairwise fun a b=>¬Wl (xd b) (xd a)<0)/\∀(H:aA) (id:Nat) (eB:Bool),H.get id=some (.cells ((mO d).map (AV.int .i64)) eB)->
  Sg 248 [.sl id 4 0 d.length d.length,.func (.func 249) [] []] H (.ret (.jZ [])) (H.set id (.cells ((mO d').map (AV.int .i64)) eB)):=
 FJ (fun _=>rfl) Tryz.aEt A1 Tryz.isAgg202 Tryz.sizeOf202 rfl UK (Wm (V0,0) (V0,0) ⟨0,.nil⟩).1 bFw (fun x y=>by
  have :=Wm (xd x) (xd y) ⟨0,.nil⟩
  rwa [<-Vi,<-Vi,UR,UR] at this) d hd
theorem Ly{tag:Nat}(ht:Nat.blt tag 2=true){l:List aD.V}{M:Nat}(hl:∀v∈l,bL M v)(hM:M<=2^18)(hlen:l.length<=64){S:List (aD.V×Int)}(hS:oP (fun i=>l.getD i V0) l.length S)(H:aA):
 Sg 191 [.bC tag 3 (bK l)] H (.ret (jH 4 (S.map jG))) H:=by
 refine eS fit eC aNm (Al rfl) Zao ?_ H;unfold aGn;dsimp only;have cS:∀k (h:k<l.length),l.getD k V0=l[k]:=fun k h=>by simp[List.getD,h]
 refine bX ?_;refine Tz ?_;refine gG ?_;refine Ty ?_;refine bY ?_;refine aT fun K hK=>?_;refine bX ?_;refine Ty ?_;refine bY ?_;refine cC [] (fun i _ H=>∃K,Found l i 0 0 K H) l.length A0 A1 ?_ ?_ ?_ ?_ ?_
 . exact zq
 . simp only[zB,seval,aR]
 . refine⟨[],Lc,fun q hq=>(nomatch hq),sE.zero,?_,Ag _,(bM.nil 0).alloc _⟩;rfl
 . rintro i f H hi hk e1 ⟨F,hF⟩;refine aP ?_;refine bX ?_;simp only[↓zP,zG,seval,e1];refine gG ?_;refine Tz ?_;refine bY ?_;refine cC [] (fun j _ H=>∃K,Found l i j 0 K H) i A0 A1 ?_ ?_ ?_ ?_ ?_
   . exact zq
   . exact zq
   . exact⟨F,hF⟩
   . clear hF F;rintro j f2 H2 hj eW e2 ⟨F,hF⟩;refine aP ?_;refine bX ?_;simp only[↓zP,zG,seval,e2];refine gG ?_;refine Tz ?_;refine bY ?_;refine cC [] (fun k _ H=>∃K,Found l i j k K H) j A0 A1 ?_ ?_ ?_ ?_ ?_
     . exact zq
     . exact zq
     . exact⟨F,hF⟩
     . clear hF F;rintro k f3 H3 vu kR e3 ⟨F,hF⟩;have RG:j<l.length:=A0;have AB:k<l.length:=A0;have gi:=cH hi;have gj:=cH RG;have gk:=cH AB;have ni:=hl _ (Ah hi);have nj:=hl _ (Ah RG);have nk:=hl _ (Ah AB)
       have DY:KI l[i] l[j] l[k]=fE (fun i=>l.getD i V0) i j k:=by simp only[KI,fE,vec,cS i hi,cS j RG,cS k AB]
       refine aP ?_;refine bX ?_;simp only[↓zP,zG,seval,e3];refine gG ?_;refine gZ 1 A1 hF.fr.at1 fun H1 n1 e1'=>?_;have cG:¬(0=H3.next):=(by have :=hF.nx;omega);simp only[↓zP,zJ,seval,zD,kR 0 rfl,kR 4 rfl,kR 5 rfl,eW 0 rfl,eW 4 rfl,hk 0 rfl,aG,aR,hi,RG,AB,gi,gj,gk,oL (aM l[i]),oL (aM l[j]),oL (aM l[k])];refine dM (bg ni nj nk hM _) ?_;rw[DY]
       have hq0:bL (2*((M+M)*(M+M))) (fE (fun i=>l.getD i V0) i j k).1:=by rw[<-DY];exact tC (iD (fW nj ni) (fW nk ni))
       have hT2:(fE (fun i=>l.getD i V0) i j k).2.natAbs<=3*(2*((M+M)*(M+M))*M):=by rw[<-DY];exact mH (tC (iD (fW nj ni) (fW nk ni))) ni
       have hcd:∀q∈iO (fun i=>l.getD i V0) i j k,EC l q=true->nA (fun i=>l.getD i V0) l.length q.1 q.2:=fun q hq ho=>yN hi RG AB hq (JT.1 ho).1 (JT.1 ho).2;have hMM:(M+M)*(M+M)<=2^19*2^19:=Ba A0 A0;have aTm:2*((M+M)*(M+M))*M<=2^39*2^18:=Ba A0 A0;have hB0:2*((M+M)*(M+M))<=2^39:=by omega
       have Oq:iO (fun i=>l.getD i V0) i j k=if(fE (fun i=>l.getD i V0) i j k).1=V0 then [] else [fE (fun i=>l.getD i V0) i j k,(aD.neg (fE (fun i=>l.getD i V0) i j k).1,-(fE (fun i=>l.getD i V0) i j k).2)]:=rfl
       generalize fE (fun i=>l.getD i V0) i j k=T at *;generalize hBB:2*((M+M)*(M+M))=B at *;have p4:(jG T).length=4:=rfl;have p3:(jG T).take 3=cE T.1:=rfl;have p1:(jG T).getD 3 aB=.int .i64 T.2:=rfl;simp only[↓zP,zJ,seval,zD,n1,oL p4];refine bY ?_;generalize hX:(H1.set H3.next _).set H3.next _=H4;have fr1:bM H1:=fun j hj=>by rw[e1'];exact hF.fr j A0
       have hF4:Found l i j k F H4:=hF.heap (by subst hX;rw[aA.aC,if_neg cG,aA.aC,if_neg cG,e1']) (by subst hX;simp only[aA.bA];omega)
        (by subst hX;exact(fr1.set A0 _).set (by simp only[aA.bA];omega) _)
       have g7:H4.get H3.next=some (.cells (jG T) false):=(by subst hX;simp only[seval,zI]);have we:H3.next<H4.next:=(by subst hX;simp only[aA.bA];omega);clear hX e1' n1 fr1;clear hF;generalize H3.next=r at *;refine aT fun K2 dL=>?_;simp only[↓zP,zJ,seval,g7,oL p4,p3,IE];refine⟨fun hz=>?_,fun hz=>?_⟩
       . refine⟨F,hF4.to (hF4.tr.step (fun q h=>h) fun q hq=>?_)⟩;rw[Oq,if_pos hz] at hq;cases hq
       apply dL;clear dL K2;rw[if_neg hz] at Oq;have wn:IntKind.i64.wrap (0 -T.2)= -T.2:=(fX (B:=3*(B*M)) A0 A0).trans A0;have aBm:[AV.int .i64 (aD.neg T.1).x,.int .i64 (aD.neg T.1).y,.int .i64 (aD.neg T.1).z,.int .i64 (-T.2)]=jG (aD.neg T.1,-T.2):=rfl;refine bX ?_;refine Dz ?_;simp only[↓zP,zJ,seval,zD,g7,oL p4,p3];refine dM (jz hq0 A0 _) ?_;simp only[↓zP,zJ,seval,zD,g7,oL p4,p1,wn,cE,aBm,show(jG (aD.neg T.1,-T.2)).length=4 from rfl];refine bY ?_
       have hq1:∀q∈iO (fun i=>l.getD i V0) i j k,bL B q.1:=fun q hq=>by
        rw[Oq] at hq;simp only[Am,Cu,Fu] at hq
        rcases hq with rfl|rfl
        . exact hq0
        exact JP hq0
       have SM:[jG T,jG (aD.neg T.1,-T.2)]=(iO (fun i=>l.getD i V0) i j k).map jG:=(by rw[Oq];rfl);rw[SM];have SH:(iO (fun i=>l.getD i V0) i j k).length=2:=(by rw[Oq];rfl);generalize Mf:iO (fun i=>l.getD i V0) i j k=cs at *;refine cC [] (fun s _ H=>∃K,Found l i j k K H/\∀q∈cs.take s,nA (fun i=>l.getD i V0) l.length q.1 q.2->q∈K) 2 A1 A1 ?_ ?_ ?_ ?_ ?_
       . exact zq
       . exact zq
       . exact⟨F,hF4,fun q hq=>(by simp at hq)⟩
       . clear hF4 F g7 we H4;rintro s f4 H4 hs Qi e4 ⟨F,hF,WC⟩;have Ut:s<cs.length:=A0;have hcg:(cs.map jG).getD s []=jG cs[s]:=fB Ut;have hqm:=Ah Ut;have aUe:(jG cs[s]).length=4:=rfl;have BK:=hF.nx;have cG:¬(0=H4.next):=A0;have vQ:=Zi ht hl A0 (hq1 _ hqm) A0
         have aTq:∀q,q∈cs.take (s+1)->q∈cs.take s\/q=cs[s]:=fun q hq=>by
          rw[Ax,Aq] at hq
          rcases hq with h|h
          . exact .inl h
          simp[Ut] at h;exact .inr h
         have bHc:=hcd _ hqm;generalize cs[s]=q at *;have Mh:=dt q F 0;have hmp:=hF.mp;have hFa:∀H5:aA,H5.get 0=H4.get 0->H5.next=H4.next+1->bM H5->Found l i j k F H5:=fun H5 h1 h2 h3=>hF.heap h1 A0 h3;refine aP ?_;by_cases iE:q∈F
         . obtain⟨ix,hfi⟩:=Mh.1 iE;simp only[↓zP,zJ,seval,e4,Qi 51 rfl,Qi 3 rfl,kR 3 rfl,eW 3 rfl,hk 3 rfl,aG,Ai,Ut,hcg,oL aUe,cG,PN,Fv,hmp,hfi];refine⟨F,hFa _ ?_ ?_ ?_,fun x hx PD=>?_⟩
           . rw[aA.aC,if_neg cG,aA.aI,if_neg cG]
           . simp only[aA.bA,aA.bH]
           . exact(hF.fr.alloc _).set A2 _
           rcases aTq x hx with h|rfl
           . exact WC x h PD
           exact iE
         have hfi:=Mh.2 iE;simp only[↓zP,zJ,seval,e4,Qi 51 rfl,Qi 3 rfl,Qi 0 rfl,kR 3 rfl,kR 0 rfl,eW 3 rfl,eW 0 rfl,hk 3 rfl,hk 0 rfl,aG,Ai,Ut,hcg,oL aUe,cG,PN,Fv,hmp,hfi];refine bO (vQ _) ?_
         cases hb:EC l q with
         |false=>
          refine Tz ?_;refine⟨F,hFa _ ?_ ?_ ?_,fun x hx PD=>?_⟩
          . rw[aA.aC,if_neg cG,aA.aI,if_neg cG]
          . simp only[aA.bA,aA.bH]
          . exact(hF.fr.alloc _).set A2 _
          rcases aTq x hx with h|rfl
          . exact WC x h PD
          rw[JT.2 ⟨PD.le,PD.lt⟩] at hb;cases hb
         |true=>
          simp only[↓zP,zJ,seval,Qi 3 rfl,kR 3 rfl,eW 3 rfl,hk 3 rfl,cG,oL aUe,Fv,hmp,hfi];have hks:uV (F++[q])=uV F++[(AV.agg (jG q),AV.bool true)]:=(by simp[uV]);refine⟨F++[q],⟨?_,fun x hx=>?_,fun a b c h1 h2 h3 h4 x hx PD=>List.mem_append_left _ (hF.tr a b c h1 h2 h3 h4 x hx PD),?_,?_,?_⟩,fun x hx PD=>?_⟩
          . rw[List.nodup_append];refine⟨hF.nd,by simp,fun a ha b zY=>?_⟩;simp only[Am,Cu,Fu] at zY;subst zY;rintro rfl;exact iE ha
          . rcases Aq.1 hx with h|h
            . exact hF.is x h
            simp only[Am,Cu,Fu] at h;subst h;exact bHc hb
          . rw[hks];simp only[seval,zI]
          . simp only[aA.bA,aA.bH];omega
          . exact((hF.fr.alloc _).set A2 _).set (by simp only[aA.bA,aA.bH];omega) _
          rcases aTq x hx with h|rfl
          . exact List.mem_append_left _ (WC x h PD)
          exact List.mem_append_right _ A2
       rintro f4 H4 Qi ⟨F,hF,WC⟩;refine Tx ?_;refine⟨F,hF.to (hF.tr.step (fun q h=>h) fun q hq hF'=>WC q ?_ hF')⟩;rw[Bb A0,<-Mf];exact hq
     rintro f3 H3 kR ⟨F,hF⟩;refine Tx ?_;exact⟨F,hF.to hF.tr.down⟩
   rintro f2 H2 eW ⟨F,hF⟩;refine Tx ?_;exact⟨F,hF.to hF.tr.next⟩
 rintro f H hk ⟨F,hF⟩;refine Tx ?_;apply hK;clear hK K;have hFm:=hF.tr.all hF.is;have BK:=hF.nx;have hmp:=hF.mp;refine bX ?_;refine Tz ?_;refine bY ?_;refine aT fun K hK=>?_;refine bX ?_;simp only[↓zP,zG,seval,hk 3 rfl];refine MP A1 (by simp only[↓zP,seval]) hmp fun bs c mb Vy hbn=>?_;refine Tx ?_;refine bY ?_;have hlF:(uV F).length=F.length:=by simp[uV]
 rw[hlF] at Vy;generalize hit:H.next=it at *;have bMa:¬(0=it):=by omega
 refine aP ?_
 refine iA [10] (fun m vs H'=>∃js:List Nat,js.Nodup/\(∀j∈js,j<F.length)/\m+js.length=F.length/\H'.get it=some (.iter 0 mb c (js.map fun j=>bs.getD j 0))/\H'.get 0=some (.sO (uV F) bs c mb)/\it<H'.next/\
  ((js=[]/\vs=[.bB])\/∃uK,js≠[]/\vs=[.sl uK 4 0 js.length js.length]/\H'.get uK=some (.cells (js.map fun j=>jG (F.getD j (V0,0))).flatten true)/\uK<H'.next/\¬(0=uK)/\¬(it=uK))) F.length (by rfl) ?_ ?_
 . refine⟨[],Lc,fun j hj=>(nomatch hj),rfl,?_,?_,?_,.inl ⟨rfl,?_⟩⟩
   . simp only[seval,zI,hit]
   . simp only[seval,zI,hit];rw[if_neg A0]
   . simp only[seval,zI,hit]
     try omega
   simp only[sm,zB,seval]
 rintro m f2 H2 eW ⟨js,j1,j2,j3,gi,g0,dT,rY⟩
 have vP:∀j,j<F.length->bs.getD j 0∈(js.map fun j=>bs.getD j 0)->j∈js:=fun j hj hm=>by obtain⟨x,x1,x2⟩:=Bm.1 hm;have hx:=j2 x x1;rw[<-qk hbn A0 A0 x2];exact x1
 refine aT fun K2 dL=>?_;refine Tz ?_;refine OC A1 (by simp only[↓zP,seval,eW 73 rfl]) gi g0 (fun fL=>?_) fun j hj hnj=>?_
 . refine Tz ?_;apply dL;clear dL K2;refine Tz ?_;apply hK;clear hK K
   have hp0:(js.map fun j=>F.getD j (V0,0)).Perm F:=by
    have h1:=(Zl j1 j2 fun j hj=>vP j hj (fL _ (by
     simp only[List.getD,Ac (show j<bs.length by omega),Bl]
     exact Ah _))).map fun j=>F.getD j (V0,0)
    rwa [PW] at h1
   have GC:∀S1:List (aD.V×Int),S1.Perm F->(S1.Pairwise fun a b=>¬gV b.1 a.1)->S1=S:=fun S1 h1 h2=>(oP.iy hF.nd hFm h1 h2).uniq hS
   have hFl:F.length<=2^20:=by have h1:=sX hF.nd hF.is;have h2:l.length*(l.length*(l.length*2))<=64*(64*(64*2)):=Ba hlen (Ba hlen (Ba hlen (Ag _)));omega
   rcases rY with ⟨rfl,hv⟩|⟨uK,cG,hv,gr,hr1,ZG,hr3⟩
   . simp only[zM] at hv;simp only[↓zP,zG,seval,hv];refine bO (mB Tryz.aEt rfl UK 249 _) ?_;simp only[↓zP,zG,seval,hv];have hS0:[]=S:=GC [] hp0 List.Pairwise.nil;refine Rx ?_;rw[<-hS0];exact⟨_,0,rfl,fun nw=>rfl⟩
   simp only[zM] at hv;simp only[↓zP,zG,seval,hv];generalize hS0:(js.map fun j=>F.getD j (V0,0))=S0 at hp0;have RG:(S0.map plV).length=js.length:=(by rw[<-hS0];simp);have bLv:=hp0.length_eq;obtain⟨d',q1,q2,q3⟩:=aEu (S0.map plV) (by simp only[Ai];omega)
   have hgr:H2.get uK=some (.cells ((mO (S0.map plV)).map (AV.int .i64)) true):=by rw[gr,QG,<-hS0,Eo];rfl
   have hc:=q3 H2 uK true hgr;rw[RG] at hc;refine bO (hc) ?_;simp only[↓zP,zG,seval,hv];have rE:d'=(d'.map xd).map plV:=by rw[Eo];exact(El (g:=id) (fun x _=>UR x)).trans (Gs d') |>.symm
   have hS1:d'.map xd=S:=GC _ (by
    have h1:=q1.map xd;rw[Eo,show(xd∘plV)=id from funext aLo,Gs] at h1
    exact h1.trans hp0) (by
     rw[Ff]
     exact q2.imp fun h h2=>h ((CB _ _).2 h2))
   rw[rE,hS1,QG];refine Rx ?_;have Xg:(S.map jG).length=js.length:=(by rw[<-hS1,Ai,Ai,q1.length_eq,RG]);have hSn:¬(S.map jG=[]):=fun h=>cG (Cp (by rw[<-Xg,h];rfl));refine⟨_,0,rfl,fun nw=>?_⟩;rw[<-Xg,jH,if_neg hSn];refine XH (by rw[aA.aC,if_pos rfl]) (fun e he=>?_) (dN CA S) nw;obtain⟨q,_,rfl⟩:=Bm.1 he;rfl
 have hjF:j<F.length:=by omega
 have hkj:(uV F).getD j (aB,aB)=(.agg (jG (F.getD j (V0,0))),.bool true):=by simp[uV,List.getD,hjF]
 have hjs:j∉js:=fun h=>hnj (Bm.2 ⟨j,h,rfl⟩);have RG:(js++[j]).length=js.length+1:=by simp
 have hm1:js.length+1<=F.length:=by
  have :=rK (js++[j]) (List.range F.length) (List.nodup_append.2 ⟨j1,by simp,fun a ha b hb=>by
   simp only[Am,Cu,Fu] at hb;rintro rfl
   exact hjs (hb▸ha)⟩) (fun x hx=>by
   rw[Az]
   rcases Aq.1 hx with h|h
   . exact j2 x h
   simp only[Am,Cu,Fu] at h
   omega)
  rwa [Bu,RG] at this
 rw[hkj];refine Tz ?_;apply dL;clear dL K2;have g2:(H2.set it (.iter 0 mb c ((js.map fun j=>bs.getD j 0)++[bs.getD j 0]))).get 0=some (.sO (uV F) bs c mb):=by rw[aA.aC,if_neg A0,g0]
 have g1:(H2.set it (.iter 0 mb c ((js.map fun j=>bs.getD j 0)++[bs.getD j 0]))).get it=some (.iter 0 mb c ((js.map fun j=>bs.getD j 0)++[bs.getD j 0])):=by rw[aA.aC,if_pos rfl]
 refine Tz ?_;refine aP ?_;refine bX ?_;refine Tx ?_;refine VJ A1 (by simp only[↓zP,zG,seval,eW 73 rfl]) g1 g2 hj ?_;rw[hkj];have p4:(jG (F.getD j (V0,0))).length=4:=rfl;generalize hq:F.getD j (V0,0)=q at *;simp only[↓zP,zJ,seval,oL p4];refine bY ?_;generalize hH4:((H2.set it _).alloc _).set _ _=H4;have k1:H4.get H2.next=some (.cells (jG q) false):=by rw[<-hH4,aA.aC,if_pos rfl]
 have k2:H4.get it=some (.iter 0 mb c ((js++[j]).map fun j=>bs.getD j 0)):=by rw[<-hH4,aA.aC,if_neg A0,aA.aI,aA.bA,if_neg A0,g1,Cn];rfl
 have k3:H4.get 0=some (.sO (uV F) bs c mb):=by rw[<-hH4,aA.aC,if_neg A0,aA.aI,aA.bA,if_neg A0,g2]
 have k4:H4.next=H2.next+1:=by rw[<-hH4];simp only[aA.bA,aA.bH]
 have k5:∀r,¬(r=it)->r<H2.next->H4.get r=H2.get r:=fun r h1 h2=>by rw[<-hH4,aA.aC,if_neg A0,aA.aI,aA.bA,if_neg A0,aA.aC,if_neg A0]
 clear hH4 g1 g2
 have hjn:(js++[j]).Nodup:=List.nodup_append.2 ⟨j1,by simp,fun a ha b hb=>by
  simp only[Am,Cu,Fu] at hb;rintro rfl
  exact hjs (hb▸ha)⟩
 have hjb:∀x∈js++[j],x<F.length:=fun x hx=>by
  rcases Aq.1 hx with h|h
  . exact j2 x h
  simp only[Am,Cu,Fu] at h;omega
 have hje:¬(js++[j]=[]):=by simp
 have hFl:F.length<=2^20:=by have h1:=sX hF.nd hF.is;have h2:l.length*(l.length*(l.length*2))<=64*(64*(64*2)):=Ba hlen (Ba hlen (Ba hlen (Ag _)));omega
 rcases rY with ⟨rfl,hv⟩|⟨uK,cG,hv,gr,hr1,ZG,hr3⟩
 . simp only[zM] at hv;have ha:=AL (H:=H4) (sz:=4) (bytes:=32) (ys:=[jG q]) rfl (by simp only[As,Bw];omega);simp only[↓zP,zJ,seval,hv,k1,oL p4];rw[show dI H4 4 (.bC 1 4 [jG q])=some [jG q] from rfl];simp only[ha,bQ];refine⟨m -1,?_,[]++[j],hjn,hjb,?_,?_,?_,?_,.inr ⟨H4.next,hje,rfl,?_,?_,?_,?_⟩⟩
   . simp only[Bw] at *;omega
   . simp only[Bw] at *;omega
   . rw[aA.aI,if_neg A0,k2]
   . rw[aA.aI,if_neg A0,k3]
   . exact Zaz
   . rw[aA.aI,if_pos rfl];simp only[Cq,Jo,Er,hq]
   . exact Zaz
   . omega
   omega
 simp only[zM] at hv;have gr4:=(k5 uK (fun h=>hr3 h.symm) hr1).trans gr
 have hl4:((js.map fun j=>jG (F.getD j (V0,0))).flatten).length=js.length*4:=by rw[oT (sz:=4) (fun e he=>?_),Ai];obtain⟨x,_,rfl⟩:=Bm.1 he;rfl
 have ha:=AM (H:=H4) (sz:=4) (bytes:=32) (ys:=[jG q]) gr4 hl4 rfl (by simp only[As,Bw];omega) A1;simp only[↓zP,zJ,seval,hv,k1,oL p4];rw[show dI H4 4 (.bC 1 4 [jG q])=some [jG q] from rfl];simp only[ha,bQ];refine⟨m -1,?_,js++[j],hjn,hjb,?_,?_,?_,?_,.inr ⟨H4.next,hje,?_,?_,?_,?_,?_⟩⟩
 . omega
 . omega
 . rw[aA.aI,aA.bA,if_neg A0,aA.aC,if_neg A0,k2]
 . rw[aA.aI,aA.bA,if_neg A0,aA.aC,if_neg A0,k3]
 . simp only[aA.bH,aA.bA];omega
 . rw[RG];rfl
 . rw[aA.aI,aA.bA,if_pos rfl];simp only[Cn,Cq,Jo,Gd,hq]
 . simp only[aA.bH,aA.bA];omega
 . omega
 omega
theorem aBd(b:Bool)(A B:Prop):fD aB b A B=B:=dZ id id
theorem VU(x:Int):uE x 0=vB x:=by unfold uE vB;split<;>(try split)<;>omega
theorem Ns(x:Int):(vB x).natAbs<=1:=by unfold vB;split<;>(try split)<;>decide
theorem jw(n c:aD.V){i:Nat}(hi:i<3)(h0:∀k,k<i->n.at k=0)(h:n.at i≠0):aD.sD n c=vB (c.at i)*vB (n.at i):=by
 unfold aD.sD
 match i,hi with
 |0,_=>rw[if_pos (show n.x≠0 from h)];rfl
 |1,_=>rw[if_neg (show ¬n.x≠0 from fun e=>e (h0 0 A1)),if_pos (show n.y≠0 from h)];rfl
 |2,_=>rw[if_neg (show ¬n.x≠0 from fun e=>e (h0 0 A1)),if_neg (show ¬n.y≠0 from fun e=>e (h0 1 A1)),if_pos (show n.z≠0 from h)];rfl
theorem Sy(n c:aD.V)(h0:∀k,k<3->n.at k=0):aD.sD n c=0:=by unfold aD.sD;rw[if_neg (show ¬n.x≠0 from fun e=>e (h0 0 A1)),if_neg (show ¬n.y≠0 from fun e=>e (h0 1 A1)),if_neg (show ¬n.z≠0 from fun e=>e (h0 2 A1))]
theorem aLn{a b:aD.V}{A B:Nat}(n:aD.V)(ha:bL A a)(hb:bL B b)(hs:A*B<2^61)(H:aA):
 Sg 283 [.agg (cE n),.agg (cE a),.agg (cE b)] H (.ret (.int .i64 (aD.sD n (aD.aU a b)))) H:=by
 refine So bDp Zah ?_ H;unfold aSj;dsimp only;refine aT fun K hK=>?_;simp only[↓zP,zG,seval,zI];apply hK;clear hK K;refine aT fun K hK=>?_;simp only[↓zP,zG,seval,zI,oL (aM a),oL (aM b)];refine bO (LU ha hb hs _) ?_;generalize hc:aD.aU a b=c;simp only[↓zP,zG,seval,zI,oL (aM c)];apply hK;clear hK K;refine aT fun K hK=>?_;refine aT fun K2 dL=>?_;simp only[↓zP,zG,seval,zI,oL (aM n)];apply dL;clear dL K2;refine fC [] (fun i _ H=>(∀k,k<i->n.at k=0)/\H.get 3=some (.cells (cE c) false)) 3 A1 rfl A1 ?_ ?_ ?_ ?_
 . exact zq
 . refine⟨fun k hk=>absurd hk (Ar _),?_⟩;simp only[zI,seval]
 . rintro i f H hi hk e1 ⟨h0,g3⟩;refine aP ?_;have Vz:i<=2:=by omega
   have hi3:i+1<=3:=hi;by_cases hz:n.at i=0
   . have hb:(n.at i != 0)=false:=(by simp[hz]);simp only[↓zP,zG,seval,zI,e1,hk 13 rfl,aG,jL n hi,aM,g3,hi,hi3,hb];refine⟨fun k hk=>?_,trivial⟩;by_cases hki:k=i
     . subst hki;exact hz
     exact h0 k A0
   have hb:(n.at i != 0)=true:=(by simp[hz]);simp only[↓zP,zG,seval,zI,e1,hk 13 rfl,hk 7 rfl,aG,jL n hi,aM,g3,hi,hi3,jL c hi,hb];refine bO (jA (c.at i) 0 _) ?_;refine Tz ?_;refine bO (jA (n.at i) 0 _) ?_;rw[VU,VU]
   have w:IntKind.i64.wrap (vB (c.at i)*vB (n.at i))=vB (c.at i)*vB (n.at i):=fX (B:=1*1) (by rw[Ex];exact Ba (Ns _) (Ns _)) A1
   simp only[↓zP,zG,seval,w];refine Rx ?_;rw[hc,jw n c hi h0 hz];rfl
 rintro f H hk ⟨h0,g3⟩;refine Tx ?_;apply hK;refine Tz ?_;refine Rx ?_;rw[hc,Sy n c h0];rfl
def vS(on:List Nat):List (List AV):=on.map fun(k:Nat)=>[AV.int .i64 (k:Int)]
theorem dD(on:List Nat):(vS on).length=on.length:=by simp[vS]
theorem nR{on:List Nat}{i:Nat}(h:i<on.length):(vS on).getD i []=[AV.int .i64 (on[i]:Int)]:=fB h
def bI:Option Nat->Int
 |none=> -1
 |some k=>k
structure aFz (H H':aA):Prop where
 free:bM H'
 le:H.next<=H'.next
 same:∀j,j<H.next->H'.get j=H.get j
theorem Rz{n:aD.V}{p:Nat->aD.V}{a:Nat}{on:List Nat}:∀(l:List Nat) (yD:Option Nat) {b:Nat},l.foldl (gO n p a) yD=some b->(∀k∈l,k∈on)->(∀c,yD=some c->c∈on)->b∈on
 |[],yD,b,h,_,hb=>hb b h
 |k::l,yD,b,h,hl,hb=>by
  refine Rz l _ h (fun x hx=>hl x (Aw _ hx)) fun c hc=>?_;have hk:=hl k Bc;unfold gO at hc;split at hc
  . exact hb c hc
  split at hc
  . cases hc;exact hk
  split at hc
  . cases hc;exact hk
  cases hc;exact hb _ rfl
theorem aCw{n:aD.V}{p:Nat->aD.V}{a:Nat}{on l:List Nat}{b:Nat}(h:l.foldl (gO n p a) none=some b)(hl:∀k∈l,k∈on):b∈on:=
 Rz l none h hl fun c hc=>by cases hc
theorem il{tag t1:Nat}{o1 o2 o3:Bool}{l:List aD.V}{M:Nat}(hl:∀v∈l,bL M v)(hM:M<=2^18)(hlen:l.length<=64){on:List Nat}(Xo:∀k∈on,k<l.length)(hol:on.length<=64){a:Nat}(ha:a<l.length)(q:aD.V×Int)
 {H:aA} (hf:bM H) {i1 i2 i3:Nat} (b1:i1<H.next) (b2:i2<H.next) (b3:i3<H.next) (g1:H.get i1=some (.cells [.bC t1 1 (vS on)] o1)) (g2:H.get i2=some (.cells [.bC tag 3 (bK l)] o2)) (g3:H.get i3=some (.cells (jG q) o3)):
 ∃H',aFz H H'/\Sg 282 [.int .i64 a,.ref i1 0,.ref i2 0,.ref i3 0] H (.ret (.int .i64 (bI (Mo q.1 (fun i=>l.getD i V0) on a)))) H':=by
 suffices h:∃out H',(out=.ret (.int .i64 (bI (Mo q.1 (fun i=>l.getD i V0) on a)))/\aFz H H')/\Sg 282 [.int .i64 a,.ref i1 0,.ref i2 0,.ref i3 0] H out H' by obtain⟨_,H',⟨rfl,hm⟩,hS⟩:=h;exact⟨H',hm,hS⟩
 refine eH fit bDo (Al rfl) ?_;unfold aSi;dsimp only;have cS:∀k (h:k<l.length),l.getD k V0=l[k]:=fun k h=>by simp[List.getD,h]
 refine aT fun K hK=>?_;refine Tz ?_;apply hK;clear hK K;refine aT fun K hK=>?_;refine Tz ?_;apply hK;clear hK K;refine aT fun K hK=>?_;refine aT fun K2 dL=>?_;simp only[↓zP,zG,seval,zI,g1];apply dL;clear dL K2;refine cC [6] (fun i vs H'=>vs=[.int .i64 (bI ((on.take i).foldl (gO q.1 (fun i=>l.getD i V0) a) none))]/\aFz H H') on.length A0 A1 ?_ ?_ ?_ ?_ ?_
 . exact zq
 . simp only[zB,seval,dD]
 . exact⟨by simp only[sm,zB,seval];rfl,hf,Ag _,fun j hj=>rfl⟩
 . rintro i f H1 hi hk e1 ⟨hv,hm⟩;simp only[zM] at hv
   have fA:(on.take (i+1)).foldl (gO q.1 (fun i=>l.getD i V0) a) none=gO q.1 (fun i=>l.getD i V0) a ((on.take i).foldl (gO q.1 (fun i=>l.getD i V0) a) none) on[i]:=by rw[Ax,Iv];simp[hi]
   have aYq:∀b,(on.take i).foldl (gO q.1 (fun i=>l.getD i V0) a) none=some b->b<l.length:=fun b hb=>Xo b (aCw hb (fun k hk=>De hk));have hg:=nR hi;have AB:=Xo _ (Ah hi);generalize on[i]=k at *;generalize (on.take i).foldl (gO q.1 (fun i=>l.getD i V0) a) none=yD at *;refine aP ?_;refine aT fun K2 dL=>?_;simp only[↓zP,zG,seval,zI,e1,hk 12 rfl,aG,dD,hi,hg];apply dL;clear dL K2;refine aT fun K2 dL=>?_;simp only[↓zP,zG,seval,zI,hk 0 rfl];rw[fA];by_cases Mj:k=a
   . have hb:((k:Int)==(a:Int))=true:=(by simp[Mj]);have hn:gO q.1 (fun i=>l.getD i V0) a yD k=yD:=if_pos Mj;simp only[zG,seval,hb,hn,hv];exact⟨trivial,hm⟩
   have hb:((k:Int)==(a:Int))=false:=Zaf;simp only[zG,seval,hb];apply dL;clear dL K2;refine aT fun K2 dL=>?_
   cases yD with
   |none=>have hn:gO q.1 (fun i=>l.getD i V0) a none k=some k:=if_neg Mj;have hd:decide (bI none<0)=true:=rfl;simp only[↓zP,zG,seval,hv,hd];rw[fA,hn];exact⟨by simp only[sm,zB,seval];rfl,hm⟩
   |some b=>
    have hn:gO q.1 (fun i=>l.getD i V0) a (some b) k=if better q.1 (fun i=>l.getD i V0) a b k then some k else some b:=if_neg Mj
    have hd:decide (bI (some b)<0)=false:=Ad (show ¬((b:Int)<0) by omega);have Vy:=aYq b rfl;have hbv:bI (some b)=(b:Int):=rfl;simp only[↓zP,zG,seval,hv,hd];apply dL;clear dL K2;have gk:=cH AB;have gb:=cH Vy;have ga:=cH ha;refine aT fun K2 dL=>?_;refine gZ 2 A1 hm.free.at2 fun H2 n2 e2=>?_;have h2:=(e2 i2).trans ((hm.same _ b2).trans g2);have h3:=(e2 i3).trans ((hm.same _ b3).trans g3);simp only[↓zP,zG,seval,zD,zI,hk 2 rfl,hk 0 rfl,hbv,h2,aG,aR,AB,ha,gk,ga,oL (aM l[k]),oL (aM l[a])];have nk:=hl _ (Ah AB);have nb:=hl _ (Ah Vy);have na:=hl _ (Ah ha);have vk:aD.sub l[k] l[a]=vec (fun i=>l.getD i V0) a k:=(by simp only[vec,cS k AB,cS a ha]);have vb:aD.sub l[b] l[a]=vec (fun i=>l.getD i V0) a b:=(by simp only[vec,cS b Vy,cS a ha]);have nvk:=fW nk na;have nvb:=fW nb na;rw[vk] at nvk;rw[vb] at nvb;refine dM (KK nk na A0 _) ?_;rw[vk];simp only[↓zP,zG,seval,zD,zI,hk 2 rfl,hk 0 rfl,hv,hbv,h2,aG,aR,ha,Vy,gb,ga,oL (aM l[a]),oL (aM l[b])];refine dM (KK nb na A0 _) ?_;rw[vb];have vo:better q.1 (fun i=>l.getD i V0) a b k=(decide (aD.sD q.1 (aD.aU (vec (fun i=>l.getD i V0) a b) (vec (fun i=>l.getD i V0) a k))<0)||(decide (aD.sD q.1 (aD.aU (vec (fun i=>l.getD i V0) a b) (vec (fun i=>l.getD i V0) a k))=0)&&decide (aD.dot (vec (fun i=>l.getD i V0) a k) (vec (fun i=>l.getD i V0) a k)>aD.dot (vec (fun i=>l.getD i V0) a b) (vec (fun i=>l.getD i V0) a b)))):=rfl;generalize vec (fun i=>l.getD i V0) a k=to at *;generalize vec (fun i=>l.getD i V0) a b=wy at *;have hx1:¬(H1.next=H1.next+1):=A0;have hx2:¬(H1.next+1=H1.next):=A0;simp only[↓zP,zG,seval,zD,zI,oL (aM to),oL (aM wy),hx1,hx2,n2];apply dL;clear dL K2;generalize hX:(((H2.set H1.next _).set (H1.next+1) _).set H1.next _).set (H1.next+1) _=H3;have u1:H3.get H1.next=some (.cells (cE to) false):=(by subst hX;simp only[zI,seval,hx1]);have u2:H3.get (H1.next+1)=some (.cells (cE wy) false):=by subst hX;simp only[zI,seval]
    have hm3:aFz H H3:=by
     have BK:H3.next=H1.next+2:=(by subst hX;simp only[aA.bA,n2]);refine⟨fun j hj=>?_,by have :=hm.le;omega,fun j hj=>?_⟩
     . have :=hm.free j A0;subst hX;rw[aA.aC,if_neg A0,aA.aC,if_neg A0,aA.aC,if_neg A0,aA.aC,if_neg A0,e2];exact this
     have hle:=hm.le;have :=hm.same j hj;subst hX;rw[aA.aC,if_neg A0,aA.aC,if_neg A0,aA.aC,if_neg A0,aA.aC,if_neg A0,e2];exact this
    have u3:=(hm3.same _ b3).trans g3;generalize H1.next=r at *;clear hX h2 h3 e2 n2;have pl3:(jG q).take 3=cE q.1:=rfl;have pl4:(jG q).length=4:=rfl;have hB:(M+M)*(M+M)<=2^19*2^19:=Ba A0 A0;refine aT fun K2 dL=>?_;simp only[↓zP,zG,seval,zI,hk 3 rfl,u1,u2,u3,pl3,pl4,oL (aM to),oL (aM wy)];refine bO (aLn q.1 nvb nvk A0 _) ?_;generalize aD.sD q.1 (aD.aU wy to)=tn at *;refine Tz ?_;apply dL;clear dL K2;refine aT fun K2 dL=>?_;refine Dz ?_;by_cases c1:tn<0
    . have d1:=Aj c1;simp only[↓zP,zG,seval,zD,zI,d1,aBd];apply dL;clear dL K2;simp only[↓zP,zG,seval,zI];rw[fA,hn,if_pos (by rw[vo,d1];rfl)];exact⟨rfl,hm3⟩
    have d1:=Ad c1;by_cases c2:tn=0
    . have d2:(tn==0)=true:=Dh.2 c2;simp only[↓zP,zG,seval,zD,zI,d1,d2,u1,oL (aM to)];refine dM (IT nvk nvk A0 _) ?_;simp only[↓zP,zG,seval,zD,zI,u2,oL (aM wy)];refine dM (IT nvb nvb A0 _) ?_;simp only[↓zP,zG,seval,zD,zI];apply dL;clear dL K2;have d3:decide (tn=0)=true:=Aj c2;by_cases c3:aD.dot wy wy<aD.dot to to
      . have d4:decide (aD.dot to to>aD.dot wy wy)=true:=Aj c3;simp only[↓zP,zG,seval,zI,d4];rw[fA,hn,if_pos (by rw[vo,d1,d3,d4];rfl)];exact⟨rfl,hm3⟩
      have d4:decide (aD.dot to to>aD.dot wy wy)=false:=Ad c3;simp only[↓zP,zG,seval,zI,d4,hv];rw[fA,hn,if_neg (by rw[vo,d1,d3,d4];decide)];exact⟨rfl,hm3⟩
    have d2:(tn==0)=false:=Dr.2 c2;have d3:decide (tn=0)=false:=Ad c2;simp only[↓zP,zG,seval,zD,zI,d1,d2];apply dL;clear dL K2;simp only[↓zP,zG,seval,zI,hv];rw[fA,hn,if_neg (by rw[vo,d1,d3];simp)];exact⟨rfl,hm3⟩
 rintro f H1 hk ⟨hv,hm⟩;simp only[zM] at hv;rw[Ay] at hv;refine Tx ?_;apply hK;simp only[↓zP,zG,seval,hv];refine Rx ?_;exact⟨rfl,hm⟩
theorem TB{n:aD.V}{p:Nat->aD.V}{on:List Nat}{s m:Nat}(h:aD.Way n p on s m (sH n p on))(i:Nat):Mo n p on (iter (sH n p on) i s)=some (iter (sH n p on) (i+1) s):=by obtain⟨ho,hS⟩:=h.side i;obtain⟨b,hb,_⟩:=Wd h.H ho (hS.crn h.H ho) ⟨_,hS.1,hS.2.1⟩;show _=some ((aD.Mo n p on _).getD 0);rw[hb];rfl
theorem aLv{n:aD.V}{p:Nat->aD.V}{on:List Nat}{s m:Nat}(h:aD.Way n p on s m (sH n p on)):2<=m:=by
 rcases En 1 m with h1|h1
 . exact h1
 have hm:m=1:=by have :=h.pos;omega
 have hb:=h.back;rw[hm] at hb;exact absurd hb (h.side 0).2.2.1
theorem BZ{H H':aA}{sz:Nat}{v:AV}{els:List (List AV)}(h:Own H sz v els)(hn:H.next<=H'.next)(hk:∀k,k<H.next->H.get k=some .tok->H'.get k=some .tok):Own H' sz v els:=by
 rcases h with ⟨rfl,rfl⟩|⟨k,rfl,h1,h2⟩
 . exact .inl ⟨rfl,rfl⟩
 exact .inr ⟨k,rfl,by omega,hk k h1 h2⟩
theorem Pm(a b:List Nat):vS (a++b)=vS a++vS b:=by simp[vS]
theorem FY(a:List Nat):eI (vS a)=true:=dN (fun _=>by simp only[sf]) a
theorem Py{tag:Nat}(ht:Nat.blt tag 2=true){l:List aD.V}{M:Nat}(hl:∀v∈l,bL M v)(hM:M<=2^18)(hlen:l.length<=64){q:aD.V×Int}{B:Nat}(hq:bL B q.1)(hB:3*(B*M)<2^62)
 {L:List Nat} (hP:Poly (fun i=>l.getD i V0) l.length q.1 q.2 L) (H:aA):
 Sg 240 [.bC tag 3 (bK l),.agg (jG q)] H (.ret (.bC 0 1 (vS L))) H:=by
 refine eS fit eC bCn (Al rfl) (by simp only[sf,cF ht,CA]) ?_ H;obtain⟨s0,r,m,Xo,W,rfl⟩:=hP.ex;unfold aRh;dsimp only;have cS:∀k (h:k<l.length),l.getD k V0=l[k]:=fun k h=>by simp[List.getD,h]
 have p4:(jG q).length=4:=rfl;have p3:(jG q).take 3=cE q.1:=rfl;have p1:(jG q).getD 3 aB=.int .i64 q.2:=rfl;refine bX ?_;refine Ty ?_;refine gG ?_;refine Ty ?_;refine bY ?_;refine aT fun K hK=>?_;refine bX ?_;refine Ty ?_;refine bY ?_;generalize WB:gC (fun i=>l.getD i V0) l.length q.1 q.2=on at *;have h0:bM (((aA.mk 0 .nil |>.alloc (.cells [.bC tag 3 (bK l)] false)).alloc (.cells (jG q) false)).alloc (.cells [.bB] false)):=(((bM.nil 0).alloc _).alloc _).alloc _;refine cC [] (fun i vs H'=>∃v,H'.get 2=some (.cells [v] false)/\Own H' 1 v (vS ((List.range i).filter fun k=>decide (aD.dot q.1 (l.getD k V0)=q.2)))/\H'.get 0=some (.cells [.bC tag 3 (bK l)] false)/\H'.get 1=some (.cells (jG q) false)/\3<=H'.next/\bM H') l.length A0 A1 ?_ ?_ ?_ ?_ ?_
 . exact zq
 . simp only[zB,seval,aR]
 . exact⟨.bB,by simp only[zI,seval],.nil _ _,by simp only[zI,seval],by simp only[zI,seval],by simp only[zI,seval],h0⟩
 . rintro i f H1 hi hk e1 ⟨v,g2,ho,g0,g1,hn,hf⟩;have hg:=cH hi;have LV:=cS i hi;have hx:=hl _ (Ah hi)
   have aBh:(List.range (i+1)).filter (fun k=>decide (aD.dot q.1 (l.getD k V0)=q.2))=(List.range i).filter (fun k=>decide (aD.dot q.1 (l.getD k V0)=q.2))++(if aD.dot q.1 l[i]=q.2 then [i] else []):=by rw[Ei,Js];congr 1;simp only[Kj,Ku,LV,Bf]
   have zQ:((List.range i).filter fun k=>decide (aD.dot q.1 (l.getD k V0)=q.2)).length<=64:=by have :=Db (fun k=>decide (aD.dot q.1 (l.getD k V0)=q.2)) (List.range i);rw[Bu] at this;omega
   rw[aBh];generalize (List.range i).filter (fun k=>decide (aD.dot q.1 (l.getD k V0)=q.2))=on0 at *;generalize l[i]=x at *;have nx1:¬(1=H1.next):=A0;have wu:¬(2=H1.next):=A0;have Xv:¬(0=H1.next):=A0;refine aP ?_;refine bX ?_;simp only[↓zP,zJ,seval,e1,hk 11 rfl,aG,aR,hi,hg,oL (aM x)];refine gG ?_;refine Dz ?_;simp only[↓zP,zJ,seval,zD,hk 3 rfl,nx1,g1,p4,p3,oL (aM x)];refine dM (IT hq hx hB _) ?_;simp only[↓zP,zJ,seval,zD,hk 3 rfl,nx1,g1,p4,p1];refine bY ?_;generalize hX:(H1.alloc _).set H1.next _=H4;have y0:H4.get 0=some (.cells [.bC tag 3 (bK l)] false):=ZaG;have y1:H4.get 1=some (.cells (jG q) false):=(by subst hX;rw[aA.aC,if_neg nx1,aA.aI,if_neg nx1];exact g1);have y2:H4.get 2=some (.cells [v] false):=(by subst hX;rw[aA.aC,if_neg wu,aA.aI,if_neg wu];exact g2);have yn:3<=H4.next:=Zax;have yf:bM H4:=by subst hX;exact(hf.alloc _).set A2 _
   have yo:Own H4 1 v (vS on0):=by refine BZ ho Zax fun k h1 h2=>?_;subst hX;rw[aA.aC,if_neg A0,aA.aI,if_neg A0];exact h2
   by_cases hc:aD.dot q.1 x=q.2
   . have hb:(aD.dot q.1 x==q.2)=true:=Dh.2 hc;obtain⟨H5,z1,z2,z3,z4,z5⟩:=Has.push (.inr yo) (ys:=[[AV.int .i64 (i:Int)]]) (bytes:=8) rfl (by simp only[dD,As,Bw];omega);simp only[↓zP,zJ,seval,hb,hk 5 rfl,y2];rw[show dI H4 1 (.bC 1 1 [[.int .i64 (i:Int)]])=some [[.int .i64 (i:Int)]] from rfl];have w2:=(z4 2 A0 (by rw[y2];simp)).trans y2;simp only[z1,bQ,zJ,seval,w2];rw[if_pos hc,Pm];exact⟨_,rfl,.inr ⟨H4.next,rfl,by simp only[aA.bA];omega,by rw[aA.aC,if_neg A0];exact z3⟩,(z4 0 A0 (by rw[y0];simp)).trans y0,(z4 1 A0 (by rw[y1];simp)).trans y1,by omega,(z5 yf).set A0 _⟩
   have hb:(aD.dot q.1 x==q.2)=false:=Dr.2 hc;simp only[↓zP,zG,seval,hb];rw[if_neg hc,Cr];exact⟨v,y2,yo,y0,y1,yn,yf⟩
 rintro f H1 hk ⟨v,g2,ho,g0,g1,hn,hf⟩;have e0:(List.range l.length).filter (fun k=>decide (aD.dot q.1 (l.getD k V0)=q.2))=on:=WB;rw[e0] at ho;refine Tx ?_;apply hK;clear hK K;have cG:vS on≠[]:=by rw[Xo];simp[vS]
 rcases ho with ⟨_,h⟩|⟨tk,rfl,ht1,ht2⟩
 . exact absurd h cG
 have aMu:on.length<=64:=by have :=Db (fun k=>decide (aD.dot q.1 (l.getD k V0)=q.2)) (List.range l.length);rw[e0,Bu] at this;omega
 have dT:∀k∈on,k<l.length:=fun k hk=>by rw[<-WB] at hk;exact(bU.1 hk).1
 have Yz:(vS on).getD 0 []=[AV.int .i64 (s0:Int)]:=by rw[Xo];rfl
 have a0:asNat (.int .i64 0)=some 0:=rfl;have rG:0<(vS on).length:=by rw[Xo];simp[vS]
 have nx:∀j,j<3->¬(j=H1.next):=fun j hj=>by omega
 have hs0:=dT _ W.hs;refine bX ?_;simp only[↓zP,zJ,seval,hk 5 rfl,hk 2 rfl,hk 3 rfl];refine gG ?_;simp only[↓zP,zJ,seval,hk 5 rfl,g2,rG,Yz,a0];refine bY ?_;obtain⟨H2,hm,hS⟩:=il (tag:=tag) hl hM hlen dT aMu hs0 q hf (i1:=2) (i2:=0) (i3:=1) A0 A0 A0 g2 g0 g1;have e0':=TB W 0;change aD.Mo _ _ _ s0=_ at e0';rw[e0'] at hS;refine aT fun K hK=>?_;refine bX ?_;simp only[↓zP,zJ,seval,hk 5 rfl,g2,rG,Yz,a0];refine OB (fs:=[]) (cs:=[.ref 2 0,.ref 0 0,.ref 1 0]) A1 (by simp only[↓zP,zG,seval]) (by simp only[sm,zB,seval];rfl) hS ?_;refine Tz ?_;refine bY ?_;refine aP ?_
 refine iA [9,10] (fun M' vs H'=>∃i,i<m/\M'=m -i/\∃v,vs=[v,.int .i64 (iter (sH q.1 (fun i=>l.getD i V0) on) (i+1) s0:Nat)]/\Has H' 1 v (vS ((List.range (i+1)).map fun i=>iter (sH q.1 (fun i=>l.getD i V0) on) i s0))/\(0<i->v≠ .bC 1 1 (vS ((List.range (i+1)).map fun i=>iter (sH q.1 (fun i=>l.getD i V0) on) i s0)))/\
  H'.get 2=some (.cells [.bC (tk+2) 1 (vS on)] false)/\H'.get 0=some (.cells [.bC tag 3 (bK l)] false)/\H'.get 1=some (.cells (jG q) false)/\3<=H'.next/\bM H') m (by rfl) ?_ ?_
 . refine⟨0,W.pos,rfl,_,by simp only[sm,zB,seval];rfl,.inl rfl,fun h=>absurd h (Ew 0),(hm.same 2 A0).trans g2,(hm.same 0 A0).trans g0,(hm.same 1 A0).trans g1,by have :=hm.le;omega,hm.free⟩
 clear hS hm H2 g2 g0 g1 hf hn ht1 ht2;rintro M' f2 H2 eW ⟨i,hi,rfl,v,hv,ho,aBm,g2,g0,g1,hn,hf⟩;simp only[zM] at hv;obtain⟨v9,v10⟩:=hv;refine aT fun K2 dL=>?_;refine bX ?_;simp only[↓zP,zJ,seval,eW 5 rfl,hk 5 rfl,g2,rG,Yz,a0,v10];refine bY ?_;by_cases Xm:i+1=m
 . have hb:((iter (sH q.1 (fun i=>l.getD i V0) on) (i+1) s0:Int) != (s0:Int))=false:=by rw[Xm,W.back];simp
   have h2:=aLv W;simp only[↓zP,zG,seval,hb];apply hK;clear hK K dL K2;simp only[↓zP,zG,seval,v9];refine Rx ?_;rw[<-Xm];exact⟨v,0,rfl,fun nw=>ho.shut (by simp[vS]) (aBm A0) (FY _) nw⟩
 have hb:((iter (sH q.1 (fun i=>l.getD i V0) on) (i+1) s0:Int) != (s0:Int))=true:=by have :=W.first (i+1) A0 A0;simp only[Gw,ne_eq];omega
 simp only[↓zP,zG,seval,hb];apply dL;clear dL K2;obtain⟨ho1,hS1⟩:=W.side (i+1);have HH:=dT _ ho1;have hnp:=TB W (i+1);have bMd:=W.le;have aZe:((List.range (i+1)).map fun i=>iter (sH q.1 (fun i=>l.getD i V0) on) i s0).length=i+1:=by simp
 have hrs:(List.range (i+1+1)).map (fun i=>iter (sH q.1 (fun i=>l.getD i V0) on) i s0)=(List.range (i+1)).map (fun i=>iter (sH q.1 (fun i=>l.getD i V0) on) i s0)++[iter (sH q.1 (fun i=>l.getD i V0) on) (i+1) s0]:=by rw[Ei (n:=i+1),Cn];rfl
 obtain⟨H5,z1,z2,z3,z4,z5⟩:=ho.push (ys:=[[AV.int .i64 (iter (sH q.1 (fun i=>l.getD i V0) on) (i+1) s0:Nat)]]) (bytes:=8) rfl (by rw[dD,aZe,As,Bw];omega);have w2:=(z4 2 A0 (by rw[g2];simp)).trans g2;have w0:=(z4 0 A0 (by rw[g0];simp)).trans g0;have w1:=(z4 1 A0 (by rw[g1];simp)).trans g1;obtain⟨H6,hm,hS⟩:=il (tag:=tag) hl hM hlen dT aMu HH q (z5 hf) (i1:=2) (i2:=0) (i3:=1) A0 A0 A0 w2 w0 w1;rw[hnp] at hS;refine bX ?_;refine aP ?_;simp only[↓zP,zJ,seval,v9,v10];rw[show ∀x:AV,dI H2 1 (.bC 1 1 [[x]])=some [[x]] from fun _=>rfl];simp only[z1,bQ,seval];refine bY ?_;simp only[↓zP,zJ,seval,eW 8 rfl,v10];refine OB (fs:=[]) (cs:=[.ref 2 0,.ref 0 0,.ref 1 0]) A1 (by rfl) (by rfl) hS ?_;refine Tz ?_;refine⟨m -(i+1),by omega,i+1,by omega,rfl,.bC (H2.next+2) 1 _,rfl,?_,fun _ h=>by injection h with h;omega,(hm.same 2 A0).trans w2,(hm.same 0 A0).trans w0,(hm.same 1 A0).trans w1,by have :=hm.le;omega,hm.free⟩;rw[hrs,Pm];exact .inr (.inr ⟨H2.next,rfl,by have :=hm.le;omega,(hm.same _ A0).trans z3⟩)
end Go.Proofs.YtogfcjbgeebfkaaGreatDoor
