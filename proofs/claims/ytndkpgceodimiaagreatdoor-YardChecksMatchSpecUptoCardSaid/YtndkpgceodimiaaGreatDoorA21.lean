/-
  Part of the proof of statement 10
-/
import Derived.Test.YtndkpgceodimiaaGreatDoorA17
import Derived.Test.YtndkpgceodimiaaGreatDoorA20
import Derived.Test.YtndkpgceodimiaaGreatDoorA06
import Derived.Test.YtndkpgceodimiaaGreatDoorA07
import Derived.Test.YtndkpgceodimiaaGreatDoorProg
import Derived.Shelf.SlSortCmp.NoneTotal
import Derived.Ground.SlsfProg
set_option linter.unusedVariables false
set_option maxRecDepth 100000
set_option maxHeartbeats 16000000
namespace Go.Proofs
open Go.Shelf
def Tryz.om:Go.Shelf.Ren:=⟨fun |6=>166|15=>231|14=>230|28=>223|29=>279|20=>271|21=>272|22=>273|23=>274|24=>275|25=>276|26=>277|27=>278|46=>309|47=>310|48=>311|49=>312|50=>313|57=>340|n=>n,fun |22=>180|24=>183|25=>234|3=>3|39=>178|0=>0|53=>73|55=>177|4=>4|46=>326|45=>325|50=>239|5=>5|9=>9|66=>351|70=>355|76=>366|77=>367|n=>n,fun |n=>n⟩
theorem Tryz.aBr:Go.Proofs.SlLaysF0.n6 Tryz.prog Tryz.om:={
 mixed:=by kernel_rfl
 f6:=⟨Tryz.f166.name,by decide,Tryz.func166.trans (Bc some (by kernel_rfl))⟩
 f14:=⟨Tryz.f230.name,by decide,Tryz.func230.trans (Bc some (by kernel_rfl))⟩
 f15:=Tryz.func231.trans (Bc some (by kernel_rfl))
 f20:=⟨Tryz.f271.name,by decide,Tryz.func271.trans (Bc some (by kernel_rfl))⟩
 f21:=⟨Tryz.f272.name,by decide,Tryz.func272.trans (Bc some (by kernel_rfl))⟩
 f22:=⟨Tryz.f273.name,by decide,Tryz.func273.trans (Bc some (by kernel_rfl))⟩
 f23:=⟨Tryz.f274.name,by decide,Tryz.func274.trans (Bc some (by kernel_rfl))⟩
 f24:=⟨Tryz.f275.name,by decide,Tryz.func275.trans (Bc some (by kernel_rfl))⟩
 f25:=⟨Tryz.f276.name,by decide,Tryz.func276.trans (Bc some (by kernel_rfl))⟩
 f26:=⟨Tryz.f277.name,by decide,Tryz.func277.trans (Bc some (by kernel_rfl))⟩
 f27:=⟨Tryz.f278.name,by decide,Tryz.func278.trans (Bc some (by kernel_rfl))⟩
 f28:=Tryz.func223.trans (Bc some (by kernel_rfl))
 f29:=Tryz.func279.trans (Bc some (by kernel_rfl))
 f46:=⟨Tryz.f309.name,by decide,Tryz.func309.trans (Bc some (by kernel_rfl))⟩
 f47:=Tryz.func310.trans (Bc some (by kernel_rfl))
 f48:=Tryz.func311.trans (Bc some (by kernel_rfl))
 f49:=⟨Tryz.f312.name,by decide,Tryz.func312.trans (Bc some (by kernel_rfl))⟩
 f50:=⟨Tryz.f313.name,by decide,Tryz.func313.trans (Bc some (by kernel_rfl))⟩
 f57:=⟨Tryz.f340.name,by decide,Tryz.func340.trans (Bc some (by kernel_rfl))⟩
 t0:=Tryz.underlying0
 a0:=Tryz.isAgg0
 z0:=Tryz.sizeOf0
 v0:=Tryz.zeroValue0
 t3:=Tryz.underlying3
 a3:=Tryz.isAgg3
 z3:=Tryz.sizeOf3
 v3:=Tryz.zeroValue3
 t4:=Tryz.underlying4
 a4:=Tryz.isAgg4
 z4:=Tryz.sizeOf4
 v4:=Tryz.zeroValue4
 t5:=Tryz.underlying5
 a5:=Tryz.isAgg5
 z5:=Tryz.sizeOf5
 v5:=Tryz.zeroValue5
 t9:=Tryz.underlying9
 a9:=Tryz.isAgg9
 z9:=Tryz.sizeOf9
 v9:=Tryz.zeroValue9
 t22:=Tryz.underlying180
 a22:=Tryz.isAgg180
 z22:=Tryz.sizeOf180
 v22:=Tryz.zeroValue180
 t25:=Tryz.underlying234
 a25:=Tryz.isAgg234
 z25:=Tryz.sizeOf234
 v25:=Tryz.zeroValue234
 t39:=Tryz.underlying178
 a39:=Tryz.isAgg178
 z39:=Tryz.sizeOf178
 v39:=Tryz.zeroValue178
 t45:=Tryz.underlying325
 a45:=Tryz.isAgg325
 z45:=Tryz.sizeOf325
 v45:=Tryz.zeroValue325
 t46:=Tryz.underlying326
 a46:=Tryz.isAgg326
 z46:=Tryz.sizeOf326
 v46:=Tryz.zeroValue326
 t50:=Tryz.underlying239
 a50:=Tryz.isAgg239
 z50:=Tryz.sizeOf239
 v50:=Tryz.zeroValue239
 t53:=Tryz.underlying73
 a53:=Tryz.isAgg73
 z53:=Tryz.sizeOf73
 v53:=Tryz.zeroValue73
 t55:=Tryz.underlying177
 a55:=Tryz.isAgg177
 z55:=Tryz.sizeOf177
 v55:=Tryz.zeroValue177
 t66:=Tryz.underlying351
 a66:=Tryz.isAgg351
 z66:=Tryz.sizeOf351
 v66:=Tryz.zeroValue351
 t70:=Tryz.underlying355
 a70:=Tryz.isAgg355
 z70:=Tryz.sizeOf355
 v70:=Tryz.zeroValue355
 t76:=Tryz.underlying366
 a76:=Tryz.isAgg366
 z76:=Tryz.sizeOf366
 v76:=Tryz.zeroValue366
 t77:=Tryz.underlying367
 a77:=Tryz.isAgg367
 z77:=Tryz.sizeOf367
 v77:=Tryz.zeroValue367}
def Tryz.oj:Go.Shelf.Ren:=⟨fun |6=>233|15=>231|14=>280|28=>223|29=>279|20=>314|21=>315|22=>316|23=>317|24=>318|25=>319|26=>320|27=>321|46=>341|47=>310|48=>311|49=>342|50=>343|57=>351|n=>n,fun |22=>237|24=>22|25=>293|3=>3|39=>178|0=>0|53=>73|55=>177|4=>4|46=>326|45=>325|50=>239|5=>5|9=>9|66=>351|70=>355|76=>366|77=>367|n=>n,fun |n=>n⟩
theorem Tryz.aKe:Go.Proofs.SlLaysF0.n6 Tryz.prog Tryz.oj:={
 mixed:=by kernel_rfl
 f6:=⟨Tryz.f233.name,by decide,Tryz.func233.trans (Bc some (by kernel_rfl))⟩
 f14:=⟨Tryz.f280.name,by decide,Tryz.func280.trans (Bc some (by kernel_rfl))⟩
 f15:=Tryz.func231.trans (Bc some (by kernel_rfl))
 f20:=⟨Tryz.f314.name,by decide,Tryz.func314.trans (Bc some (by kernel_rfl))⟩
 f21:=⟨Tryz.f315.name,by decide,Tryz.func315.trans (Bc some (by kernel_rfl))⟩
 f22:=⟨Tryz.f316.name,by decide,Tryz.func316.trans (Bc some (by kernel_rfl))⟩
 f23:=⟨Tryz.f317.name,by decide,Tryz.func317.trans (Bc some (by kernel_rfl))⟩
 f24:=⟨Tryz.f318.name,by decide,Tryz.func318.trans (Bc some (by kernel_rfl))⟩
 f25:=⟨Tryz.f319.name,by decide,Tryz.func319.trans (Bc some (by kernel_rfl))⟩
 f26:=⟨Tryz.f320.name,by decide,Tryz.func320.trans (Bc some (by kernel_rfl))⟩
 f27:=⟨Tryz.f321.name,by decide,Tryz.func321.trans (Bc some (by kernel_rfl))⟩
 f28:=Tryz.func223.trans (Bc some (by kernel_rfl))
 f29:=Tryz.func279.trans (Bc some (by kernel_rfl))
 f46:=⟨Tryz.f341.name,by decide,Tryz.func341.trans (Bc some (by kernel_rfl))⟩
 f47:=Tryz.func310.trans (Bc some (by kernel_rfl))
 f48:=Tryz.func311.trans (Bc some (by kernel_rfl))
 f49:=⟨Tryz.f342.name,by decide,Tryz.func342.trans (Bc some (by kernel_rfl))⟩
 f50:=⟨Tryz.f343.name,by decide,Tryz.func343.trans (Bc some (by kernel_rfl))⟩
 f57:=⟨Tryz.f351.name,by decide,Tryz.func351.trans (Bc some (by kernel_rfl))⟩
 t0:=Tryz.underlying0
 a0:=Tryz.isAgg0
 z0:=Tryz.sizeOf0
 v0:=Tryz.zeroValue0
 t3:=Tryz.underlying3
 a3:=Tryz.isAgg3
 z3:=Tryz.sizeOf3
 v3:=Tryz.zeroValue3
 t4:=Tryz.underlying4
 a4:=Tryz.isAgg4
 z4:=Tryz.sizeOf4
 v4:=Tryz.zeroValue4
 t5:=Tryz.underlying5
 a5:=Tryz.isAgg5
 z5:=Tryz.sizeOf5
 v5:=Tryz.zeroValue5
 t9:=Tryz.underlying9
 a9:=Tryz.isAgg9
 z9:=Tryz.sizeOf9
 v9:=Tryz.zeroValue9
 t22:=Tryz.underlying237
 a22:=Tryz.isAgg237
 z22:=Tryz.sizeOf237
 v22:=Tryz.zeroValue237
 t25:=Tryz.underlying293
 a25:=Tryz.isAgg293
 z25:=Tryz.sizeOf293
 v25:=Tryz.zeroValue293
 t39:=Tryz.underlying178
 a39:=Tryz.isAgg178
 z39:=Tryz.sizeOf178
 v39:=Tryz.zeroValue178
 t45:=Tryz.underlying325
 a45:=Tryz.isAgg325
 z45:=Tryz.sizeOf325
 v45:=Tryz.zeroValue325
 t46:=Tryz.underlying326
 a46:=Tryz.isAgg326
 z46:=Tryz.sizeOf326
 v46:=Tryz.zeroValue326
 t50:=Tryz.underlying239
 a50:=Tryz.isAgg239
 z50:=Tryz.sizeOf239
 v50:=Tryz.zeroValue239
 t53:=Tryz.underlying73
 a53:=Tryz.isAgg73
 z53:=Tryz.sizeOf73
 v53:=Tryz.zeroValue73
 t55:=Tryz.underlying177
 a55:=Tryz.isAgg177
 z55:=Tryz.sizeOf177
 v55:=Tryz.zeroValue177
 t66:=Tryz.underlying351
 a66:=Tryz.isAgg351
 z66:=Tryz.sizeOf351
 v66:=Tryz.zeroValue351
 t70:=Tryz.underlying355
 a70:=Tryz.isAgg355
 z70:=Tryz.sizeOf355
 v70:=Tryz.zeroValue355
 t76:=Tryz.underlying366
 a76:=Tryz.isAgg366
 z76:=Tryz.sizeOf366
 v76:=Tryz.zeroValue366
 t77:=Tryz.underlying367
 a77:=Tryz.isAgg367
 z77:=Tryz.sizeOf367
 v77:=Tryz.zeroValue367}
def Tryz.oo:Go.Shelf.Ren:=⟨fun |6=>225|15=>231|14=>270|28=>223|29=>279|20=>301|21=>302|22=>303|23=>304|24=>305|25=>306|26=>307|27=>308|46=>337|47=>310|48=>311|49=>338|50=>339|57=>350|n=>n,fun |22=>32|24=>52|25=>229|3=>3|39=>178|0=>0|53=>73|55=>177|4=>4|46=>326|45=>325|50=>239|5=>5|9=>9|66=>351|70=>355|76=>366|77=>367|n=>n,fun |n=>n⟩
theorem Tryz.aBt:Go.Proofs.SlLaysF0.n6 Tryz.prog Tryz.oo:={
 mixed:=by kernel_rfl
 f6:=⟨Tryz.f225.name,by decide,Tryz.func225.trans (Bc some (by kernel_rfl))⟩
 f14:=⟨Tryz.f270.name,by decide,Tryz.func270.trans (Bc some (by kernel_rfl))⟩
 f15:=Tryz.func231.trans (Bc some (by kernel_rfl))
 f20:=⟨Tryz.f301.name,by decide,Tryz.func301.trans (Bc some (by kernel_rfl))⟩
 f21:=⟨Tryz.f302.name,by decide,Tryz.func302.trans (Bc some (by kernel_rfl))⟩
 f22:=⟨Tryz.f303.name,by decide,Tryz.func303.trans (Bc some (by kernel_rfl))⟩
 f23:=⟨Tryz.f304.name,by decide,Tryz.func304.trans (Bc some (by kernel_rfl))⟩
 f24:=⟨Tryz.f305.name,by decide,Tryz.func305.trans (Bc some (by kernel_rfl))⟩
 f25:=⟨Tryz.f306.name,by decide,Tryz.func306.trans (Bc some (by kernel_rfl))⟩
 f26:=⟨Tryz.f307.name,by decide,Tryz.func307.trans (Bc some (by kernel_rfl))⟩
 f27:=⟨Tryz.f308.name,by decide,Tryz.func308.trans (Bc some (by kernel_rfl))⟩
 f28:=Tryz.func223.trans (Bc some (by kernel_rfl))
 f29:=Tryz.func279.trans (Bc some (by kernel_rfl))
 f46:=⟨Tryz.f337.name,by decide,Tryz.func337.trans (Bc some (by kernel_rfl))⟩
 f47:=Tryz.func310.trans (Bc some (by kernel_rfl))
 f48:=Tryz.func311.trans (Bc some (by kernel_rfl))
 f49:=⟨Tryz.f338.name,by decide,Tryz.func338.trans (Bc some (by kernel_rfl))⟩
 f50:=⟨Tryz.f339.name,by decide,Tryz.func339.trans (Bc some (by kernel_rfl))⟩
 f57:=⟨Tryz.f350.name,by decide,Tryz.func350.trans (Bc some (by kernel_rfl))⟩
 t0:=Tryz.underlying0
 a0:=Tryz.isAgg0
 z0:=Tryz.sizeOf0
 v0:=Tryz.zeroValue0
 t3:=Tryz.underlying3
 a3:=Tryz.isAgg3
 z3:=Tryz.sizeOf3
 v3:=Tryz.zeroValue3
 t4:=Tryz.underlying4
 a4:=Tryz.isAgg4
 z4:=Tryz.sizeOf4
 v4:=Tryz.zeroValue4
 t5:=Tryz.underlying5
 a5:=Tryz.isAgg5
 z5:=Tryz.sizeOf5
 v5:=Tryz.zeroValue5
 t9:=Tryz.underlying9
 a9:=Tryz.isAgg9
 z9:=Tryz.sizeOf9
 v9:=Tryz.zeroValue9
 t22:=Tryz.underlying32
 a22:=Tryz.isAgg32
 z22:=Tryz.sizeOf32
 v22:=Tryz.zeroValue32
 t25:=Tryz.underlying229
 a25:=Tryz.isAgg229
 z25:=Tryz.sizeOf229
 v25:=Tryz.zeroValue229
 t39:=Tryz.underlying178
 a39:=Tryz.isAgg178
 z39:=Tryz.sizeOf178
 v39:=Tryz.zeroValue178
 t45:=Tryz.underlying325
 a45:=Tryz.isAgg325
 z45:=Tryz.sizeOf325
 v45:=Tryz.zeroValue325
 t46:=Tryz.underlying326
 a46:=Tryz.isAgg326
 z46:=Tryz.sizeOf326
 v46:=Tryz.zeroValue326
 t50:=Tryz.underlying239
 a50:=Tryz.isAgg239
 z50:=Tryz.sizeOf239
 v50:=Tryz.zeroValue239
 t53:=Tryz.underlying73
 a53:=Tryz.isAgg73
 z53:=Tryz.sizeOf73
 v53:=Tryz.zeroValue73
 t55:=Tryz.underlying177
 a55:=Tryz.isAgg177
 z55:=Tryz.sizeOf177
 v55:=Tryz.zeroValue177
 t66:=Tryz.underlying351
 a66:=Tryz.isAgg351
 z66:=Tryz.sizeOf351
 v66:=Tryz.zeroValue351
 t70:=Tryz.underlying355
 a70:=Tryz.isAgg355
 z70:=Tryz.sizeOf355
 v70:=Tryz.zeroValue355
 t76:=Tryz.underlying366
 a76:=Tryz.isAgg366
 z76:=Tryz.sizeOf366
 v76:=Tryz.zeroValue366
 t77:=Tryz.underlying367
 a77:=Tryz.isAgg367
 z77:=Tryz.sizeOf367
 v77:=Tryz.zeroValue367}
end Go.Proofs
namespace Go.Proofs.YtndkpgceodimiaaGreatDoor
open Go Go.Av Go.aI
attribute [local congr] aV aO aP aL aX aR aQ aH aY
attribute [local irreducible] FC bY eX
theorem BE (p q:aI.V×Int):Vn p q<0↔iI p.1 q.1:=by
 unfold Vn orZ uO iI
 rcases Eu p.1.x q.1.x with h|h|h
 · simp[h]
 · rcases Eu p.1.y q.1.y with h2|h2|h2
   · simp[h,h2]
   · rcases Eu p.1.z q.1.z with h3|h3|h3
     · simp[h,h2,h3]
     · simp[h,h2,h3]
     simp[h,h2,h3,Jp h3]
   simp[h,h2,Jp h2,Jb h2]
 simp[h,Jp h,Jb h]
def plV (q:aI.V×Int):BU 4:=⟨[q.1.x,q.1.y,q.1.z,q.2],rfl⟩
def q9 (x:BU 4):aI.V×Int:=(⟨x.1.getD 0 0,x.1.getD 1 0,x.1.getD 2 0⟩,x.1.getD 3 0)
theorem aHt (q:aI.V×Int):q9 (plV q)=q:=rfl
theorem TY (x:BU 4):plV (q9 x)=x:=by
 obtain⟨l,hl⟩:=x
 match l,hl with
 |[a,b,c,d],_=>rfl
theorem Uk (q:aI.V×Int):Uj (plV q)=lF q:=rfl
theorem PG:∀S:List (aI.V×Int),(mD (S.map plV)).map (AV.int .i64)=(S.map lF).flatten
 |[]=>rfl
 |q::S=>by have :=PG S;simp only[mD,Bv,Dr,Cf,Bx] at this ⊢;rw[this];rfl
theorem bBp:Go.Sort.SWO (Go.Proofs.ltOf fun x y:BU 4=>Vn (q9 x) (q9 y)) where
 irrefl x:=by simp only[Go.Proofs.ltOf,BE,Bk];exact iI.km _
 trans x y z h1 h2:=by simp only[Go.Proofs.ltOf,BE,Bg] at *;exact iI.trans h1 h2
 ntrans x y z h1 h2:=by simp only[Go.Proofs.ltOf,BE,Bk] at *;unfold iI at *;omega
def uZ (K:List (aI.V×Int)):List (AV×AV):=K.map fun q=>(.agg (lF q),.bool true)
theorem ji (p q:aI.V×Int):cJ [.i,.i,.i,.i] (lF p) (lF q)=some (decide (p=q)):=by obtain⟨⟨a,b,c⟩,d⟩:=p;obtain⟨⟨a',b',c'⟩,d'⟩:=q;simp only[lF,cJ,if_true,Bz,Ah,V.mk.injEq,Fs];congr 1;rw[Cg];simp[and_assoc]
theorem ky {bs:List Nat} (h:bs.Nodup) {i j:Nat} (hi:i<bs.length) (hj:j<bs.length) (e:bs.getD i 0=bs.getD j 0):i=j:=by
 simp only[List.getD,Ab hi,Ab hj,Bi] at e;have hp:=Gc.1 h
 rcases Ji i j with h1|h1|h1
 · exact absurd e (hp i j hi hj h1)
 · exact h1
 exact absurd e.symm (hp j i hj hi h1)
theorem Zk (q:aI.V×Int):∀(K:List (aI.V×Int)) (n:Nat),(q∈K->∃i,gN (.f [.i,.i,.i,.i]) (.agg (lF q)) (uZ K) n=some (some (i,.bool true)))/\(q∉K->gN (.f [.i,.i,.i,.i]) (.agg (lF q)) (uZ K) n=some none)
 |[],n=>⟨fun h=>(nomatch h),fun _=>rfl⟩
 |x::K,n=>by
  obtain⟨h1,h2⟩:=Zk q K (n+1);simp only[uZ,Bv,gN,sameKey,ji] at h1 h2 ⊢;by_cases e:q=x
  · subst e;simp
  simp only[e,Jl,Ap,false_or];exact⟨h1,h2⟩
theorem HH (v:aI.V):cJ [.i,.i,.i] (cG v) [.int .i64 0,.int .i64 0,.int .i64 0]=some (decide (v=V0)):=by obtain⟨a,b,c⟩:=v;simp only[cG,cJ,if_true,Bz,V0,V.mk.injEq,Fs];congr 1;rw[Cg];simp
theorem JF {l:List aI.V} {q:aI.V×Int}:CU l q=true↔(∀k,k<l.length->aI.dot q.1 (l.getD k V0)<=q.2)/\∃k,k<l.length/\aI.dot q.1 (l.getD k V0)<q.2:=by
 have hg:∀k (h:k<l.length),l.getD k V0=l[k]:=fun k h=>by simp[List.getD,h]
 simp only[CU,Am,Aw,Bg,Cp,<-Fe,Da];constructor
 · rintro⟨h1,h2⟩;refine⟨fun k hk=>by rw[hg k hk];exact h1 _ (Ac hk),?_⟩;refine Cu fun hc=>h2 fun v hv=>?_;obtain⟨k,hk,rfl⟩:=Dm hv;have a1:=h1 _ (Ac hk);have a2:¬aI.dot q.1 l[k]<q.2:=fun hh=>hc ⟨k,hk,by rw[hg k hk];exact hh⟩;omega
 rintro⟨h1,k,hk,h2⟩;refine⟨fun v hv=>?_,fun h=>?_⟩
 · obtain⟨k,hk,rfl⟩:=Dm hv;have :=h1 k hk
   rwa [hg k hk] at this
 have :=h _ (Ac hk);rw[hg k hk] at h2;omega
structure Found (l:List aI.V) (i j k:Nat) (K:List (aI.V×Int)) (H:aA):Prop where
 nd:K.Nodup
 is:∀q∈K,pP (fun i=>l.getD i V0) l.length q.1 q.2
 tr:sF (fun i=>l.getD i V0) l.length i j k K
 mp:H.get 0=some (.map (uZ K))
 nx:1<=H.next
 fr:cW H
theorem Found.heap {l:List aI.V} {i j k:Nat} {K:List (aI.V×Int)} {H H':aA} (h:Found l i j k K H) (h0:H'.get 0=H.get 0) (hn:H.next<=H'.next) (hf:cW H'):Found l i j k K H':=
 ⟨h.nd,h.is,h.tr,h0.trans h.mp,Cb h.nx hn,hf⟩
theorem Found.to {l:List aI.V} {i j k i' j' k':Nat} {K:List (aI.V×Int)} {H:aA} (h:Found l i j k K H) (ht:sF (fun i=>l.getD i V0) l.length i' j' k' K):Found l i' j' k' K H:=⟨h.nd,h.is,ht,h.mp,h.nx,h.fr⟩
theorem TR:MG Tryz.prog 166:=⟨_,Tryz.func166,by kernel_rfl,by kernel_rfl⟩
theorem aBs (d:List (BU 4)) (hd:d.length<4611686018427387904):
 ∃d':List (BU 4),d'.Perm d/\(d'.Pairwise fun a b=>¬Vn (q9 b) (q9 a)<0)/\∀(H:aA) (id:Nat) (eI:Bool),H.get id=some (.cells ((mD d).map (AV.int .i64)) eI)->
  Sg 166 [.sl id 4 0 d.length d.length,.func (.func 167) [] []] H (.ret (.jR [])) (H.set id (.cells ((mD d').map (AV.int .i64)) eI)):=
 EG (fun _=>rfl) Tryz.aBr (by decide) Tryz.isAgg183 Tryz.sizeOf183 rfl TR (Vo (V0,0) (V0,0) ⟨0,.nil⟩).1 bBp (fun x y=>by
  have :=Vo (q9 x) (q9 y) ⟨0,.nil⟩
  rwa [<-Uk,<-Uk,TY,TY] at this) d hd
theorem Ri {tag:Nat} (ht:Nat.blt tag 2=true) {l:List aI.V} {M:Nat} (hl:∀v∈l,bT M v) (hM:M<=2^18) (hlen:l.length<=64) {S:List (aI.V×Int)} (hS:oV (fun i=>l.getD i V0) l.length S) (H:aA):
 Sg 111 [.aU tag 3 (bS l)] H (.ret (kC 4 (S.map lF))) H:=by
 refine dL fit eU aJd (Aj rfl) (by simp only[sf,cV ht]) ?_ H;unfold aCq;dsimp only;have cT:∀k (h:k<l.length),l.getD k V0=l[k]:=fun k h=>by simp[List.getD,h]
 refine bQ ?_;simp only[↓zP,zG,seval];refine fM ?_;simp only[↓zP,zJ,seval];refine bR ?_;refine aG fun K hK=>?_;refine bQ ?_;simp only[↓zP,zJ,seval];refine bR ?_;refine bO [] (fun i _ H=>∃K,Found l i 0 0 K H) l.length (by omega) (by decide) ?_ ?_ ?_ ?_ ?_
 · simp only[zB,seval]
 · simp only[zB,seval,aN]
 · refine⟨[],Kb,fun q hq=>(nomatch hq),sF.zero,?_,Ak _,(cW.nil 0).alloc _⟩;rfl
 · rintro i f H hi hk e1 ⟨F,hF⟩;refine aF ?_;refine bQ ?_;simp only[↓zP,zG,seval,e1];refine fM ?_;simp only[↓zP,zG,seval];refine bR ?_;refine bO [] (fun j _ H=>∃K,Found l i j 0 K H) i (by omega) (by decide) ?_ ?_ ?_ ?_ ?_
   · simp only[zB,seval]
   · simp only[zB,seval]
   · exact⟨F,hF⟩
   · clear hF F;rintro j f2 H2 hj dP e2 ⟨F,hF⟩;refine aF ?_;refine bQ ?_;simp only[↓zP,zG,seval,e2];refine fM ?_;simp only[↓zP,zG,seval];refine bR ?_;refine bO [] (fun k _ H=>∃K,Found l i j k K H) j (by omega) (by decide) ?_ ?_ ?_ ?_ ?_
     · simp only[zB,seval]
     · simp only[zB,seval]
     · exact⟨F,hF⟩
     · clear hF F;rintro k f3 H3 ke mB e3 ⟨F,hF⟩;have Mk:j<l.length:=(by omega);have xW:k<l.length:=(by omega);have gi:=cF hi;have gj:=cF Mk;have gk:=cF xW;have ni:=hl _ (Ac hi);have nj:=hl _ (Ac Mk);have nk:=hl _ (Ac xW)
       have qQ:JR l[i] l[j] l[k]=fB (fun i=>l.getD i V0) i j k:=by simp only[JR,fB,vec,cT i hi,cT j Mk,cT k xW]
       refine aF ?_;refine bQ ?_;simp only[↓zP,zG,seval,e3];refine fM ?_;refine lN 1 (by decide) hF.fr.at1 fun H1 n1 e1'=>?_;have cK:¬(0=H3.next):=(by have :=hF.nx;omega);simp only[↓zP,zJ,seval,zD,mB 0 rfl,mB 4 rfl,mB 5 rfl,dP 0 rfl,dP 4 rfl,hk 0 rfl,aB,aN,hi,Mk,xW,gi,gj,gk,oL (aM l[i]),oL (aM l[j]),oL (aM l[k])];refine eE (ZG ni nj nk hM _) ?_;rw[qQ]
       have hq0:bT (2*((M+M)*(M+M))) (fB (fun i=>l.getD i V0) i j k).1:=by rw[<-qQ];exact tG (kK (fV nj ni) (fV nk ni))
       have hT2:(fB (fun i=>l.getD i V0) i j k).2.natAbs<=3*(2*((M+M)*(M+M))*M):=by rw[<-qQ];exact oY (tG (kK (fV nj ni) (fV nk ni))) ni
       have hcd:∀q∈iS (fun i=>l.getD i V0) i j k,CU l q=true->pP (fun i=>l.getD i V0) l.length q.1 q.2:=fun q hq ho=>xY hi Mk xW hq (JF.1 ho).1 (JF.1 ho).2;have hMM:(M+M)*(M+M)<=2^19*2^19:=Bq (by omega) (by omega);have aTs:2*((M+M)*(M+M))*M<=2^39*2^18:=Bq (by omega) (by omega);have hB0:2*((M+M)*(M+M))<=2^39:=by omega
       have Nu:iS (fun i=>l.getD i V0) i j k=if(fB (fun i=>l.getD i V0) i j k).1=V0 then [] else [fB (fun i=>l.getD i V0) i j k,(aI.neg (fB (fun i=>l.getD i V0) i j k).1,-(fB (fun i=>l.getD i V0) i j k).2)]:=rfl
       generalize fB (fun i=>l.getD i V0) i j k=T at *;generalize hBB:2*((M+M)*(M+M))=B at *;have p4:(lF T).length=4:=rfl;have p3:(lF T).take 3=cG T.1:=rfl;have p1:(lF T).getD 3 aD=.int .i64 T.2:=rfl;simp only[↓zP,zJ,seval,zD,n1,oL p4];refine bR ?_;generalize hX:(H1.set H3.next _).set H3.next _=H4;have fr1:cW H1:=fun j hj=>by rw[e1'];exact hF.fr j (by omega)
       have hF4:Found l i j k F H4:=hF.heap (by subst hX;rw[aA.aC,if_neg cK,aA.aC,if_neg cK,e1']) (by subst hX;simp only[aA.aW];omega)
        (by subst hX;exact(fr1.set (by omega) _).set (by simp only[aA.aW];omega) _)
       have g7:H4.get H3.next=some (.cells (lF T) false):=(by subst hX;simp only[seval,zI]);have qt:H3.next<H4.next:=(by subst hX;simp only[aA.aW];omega);clear hX e1' n1 fr1;clear hF;generalize H3.next=r at *;refine aG fun K2 bK=>?_;simp only[↓zP,zJ,seval,g7,oL p4,p3,HH];refine⟨fun hz=>?_,fun hz=>?_⟩
       · refine⟨F,hF4.to (hF4.tr.step (fun q h=>h) fun q hq=>?_)⟩;rw[Nu,if_pos hz] at hq;cases hq
       apply bK;clear bK K2;rw[if_neg hz] at Nu;have wn:IntKind.i64.wrap (0 -T.2)= -T.2:=(fW (B:=3*(B*M)) (by omega) (by omega)).trans (by omega);have xq:[AV.int .i64 (aI.neg T.1).x,.int .i64 (aI.neg T.1).y,.int .i64 (aI.neg T.1).z,.int .i64 (-T.2)]=lF (aI.neg T.1,-T.2):=rfl;refine bQ ?_;refine Dz ?_;simp only[↓zP,zJ,seval,zD,g7,oL p4,p3];refine eE (eh hq0 (by omega) _) ?_;simp only[↓zP,zJ,seval,zD,g7,oL p4,p1,wn,cG,xq,show(lF (aI.neg T.1,-T.2)).length=4 from rfl];refine bR ?_
       have KB:∀q∈iS (fun i=>l.getD i V0) i j k,bT B q.1:=fun q hq=>by
        rw[Nu] at hq;simp only[Ap,Br,Dq] at hq
        rcases hq with rfl|rfl
        · exact hq0
        exact JB hq0
       have Ml:[lF T,lF (aI.neg T.1,-T.2)]=(iS (fun i=>l.getD i V0) i j k).map lF:=(by rw[Nu];rfl);rw[Ml];have Zt:(iS (fun i=>l.getD i V0) i j k).length=2:=(by rw[Nu];rfl);generalize CR:iS (fun i=>l.getD i V0) i j k=cs at *;refine bO [] (fun s _ H=>∃K,Found l i j k K H/\∀q∈cs.take s,pP (fun i=>l.getD i V0) l.length q.1 q.2->q∈K) 2 (by decide) (by decide) ?_ ?_ ?_ ?_ ?_
       · simp only[zB,seval]
       · simp only[zB,seval]
       · exact⟨F,hF4,fun q hq=>(by simp at hq)⟩
       · clear hF4 F g7 qt H4;rintro s f4 H4 hs Pd e4 ⟨F,hF,IE⟩;have IF:s<cs.length:=(by omega);have hcg:(cs.map lF).getD s []=lF cs[s]:=eR IF;have hqm:=Ac IF;have aRd:(lF cs[s]).length=4:=rfl;have AM:=hF.nx;have cK:¬(0=H4.next):=(by omega);have qK:=YX ht hl (by omega) (KB _ hqm) (by omega)
         have aQn:∀q,q∈cs.take (s+1)->q∈cs.take s\/q=cs[s]:=fun q hq=>by
          rw[Al,An] at hq
          rcases hq with h|h
          · exact .inl h
          simp[IF] at h;exact .inr h
         have bCr:=hcd _ hqm;generalize cs[s]=q at *;have Ll:=Zk q F 0;have hmp:=hF.mp;have hFa:∀H5:aA,H5.get 0=H4.get 0->H5.next=H4.next+1->cW H5->Found l i j k F H5:=fun H5 h1 h2 h3=>hF.heap h1 (by omega) h3;refine aF ?_;by_cases gG:q∈F
         · obtain⟨ix,hfi⟩:=Ll.1 gG;simp only[↓zP,zJ,seval,e4,Pd 51 rfl,Pd 3 rfl,mB 3 rfl,dP 3 rfl,hk 3 rfl,aB,Ai,IF,hcg,oL aRd,cK,DM,Gn,hmp,hfi];refine⟨F,hFa _ ?_ ?_ ?_,fun x hx RS=>?_⟩
           · rw[aA.aC,if_neg cK,aA.aJ,if_neg cK]
           · simp only[aA.aW,aA.aZ]
           · exact(hF.fr.alloc _).set (by simp) _
           rcases aQn x hx with h|rfl
           · exact IE x h RS
           exact gG
         have hfi:=Ll.2 gG;simp only[↓zP,zJ,seval,e4,Pd 51 rfl,Pd 3 rfl,Pd 0 rfl,mB 3 rfl,mB 0 rfl,dP 3 rfl,dP 0 rfl,hk 3 rfl,hk 0 rfl,aB,Ai,IF,hcg,oL aRd,cK,DM,Gn,hmp,hfi];refine bW (qK _) ?_
         cases hb:CU l q with
         |false=>
          simp only[↓zP,zG,seval];refine⟨F,hFa _ ?_ ?_ ?_,fun x hx RS=>?_⟩
          · rw[aA.aC,if_neg cK,aA.aJ,if_neg cK]
          · simp only[aA.aW,aA.aZ]
          · exact(hF.fr.alloc _).set (by simp) _
          rcases aQn x hx with h|rfl
          · exact IE x h RS
          rw[JF.2 ⟨RS.le,RS.lt⟩] at hb;cases hb
         |true=>
          simp only[↓zP,zJ,seval,Pd 3 rfl,mB 3 rfl,dP 3 rfl,hk 3 rfl,cK,oL aRd,Gn,hmp,hfi];have hks:uZ (F++[q])=uZ F++[(AV.agg (lF q),AV.bool true)]:=(by simp[uZ]);refine⟨F++[q],⟨?_,fun x hx=>?_,fun a b c h1 h2 h3 h4 x hx RS=>List.mem_append_left _ (hF.tr a b c h1 h2 h3 h4 x hx RS),?_,?_,?_⟩,fun x hx RS=>?_⟩
          · rw[List.nodup_append];refine⟨hF.nd,by simp,fun a ha b IA=>?_⟩;simp only[Ap,Br,Dq] at IA;subst IA;rintro rfl;exact gG ha
          · rcases An.1 hx with h|h
            · exact hF.is x h
            simp only[Ap,Br,Dq] at h;subst h;exact bCr hb
          · rw[hks];simp only[seval,zI]
          · simp only[aA.aW,aA.aZ];omega
          · exact((hF.fr.alloc _).set (by simp) _).set (by simp only[aA.aW,aA.aZ];omega) _
          rcases aQn x hx with h|rfl
          · exact List.mem_append_left _ (IE x h RS)
          exact List.mem_append_right _ (by simp)
       rintro f4 H4 Pd ⟨F,hF,IE⟩;simp only[↓zP,seval];refine⟨F,hF.to (hF.tr.step (fun q h=>h) fun q hq hF'=>IE q ?_ hF')⟩;rw[Ar (by omega),<-CR];exact hq
     rintro f3 H3 mB ⟨F,hF⟩;simp only[↓zP,seval];exact⟨F,hF.to hF.tr.down⟩
   rintro f2 H2 dP ⟨F,hF⟩;simp only[↓zP,seval];exact⟨F,hF.to hF.tr.next⟩
 rintro f H hk ⟨F,hF⟩;simp only[↓zP,seval];apply hK;clear hK K;have hFm:=hF.tr.all hF.is;have AM:=hF.nx;have hmp:=hF.mp;refine bQ ?_;simp only[↓zP,zG,seval];refine bR ?_;refine aG fun K hK=>?_;refine bQ ?_;simp only[↓zP,zG,seval,hk 3 rfl];refine LU (by decide) (by simp only[↓zP,seval]) hmp fun bs c mb VE hbn=>?_;simp only[↓zP,seval];refine bR ?_;have hlF:(uZ F).length=F.length:=by simp[uZ]
 rw[hlF] at VE;generalize Ny:H.next=it at *;have bIa:¬(0=it):=by omega
 refine aF ?_
 refine iG [10] (fun m vs H'=>∃js:List Nat,js.Nodup/\(∀j∈js,j<F.length)/\m+js.length=F.length/\H'.get it=some (.iter 0 mb c (js.map fun j=>bs.getD j 0))/\H'.get 0=some (.sT (uZ F) bs c mb)/\it<H'.next/\
  ((js=[]/\vs=[.aS])\/∃uS,js≠[]/\vs=[.sl uS 4 0 js.length js.length]/\H'.get uS=some (.cells (js.map fun j=>lF (F.getD j (V0,0))).flatten true)/\uS<H'.next/\¬(0=uS)/\¬(it=uS))) F.length (by rfl) ?_ ?_
 · refine⟨[],Kb,fun j hj=>(nomatch hj),rfl,?_,?_,?_,.inl ⟨rfl,?_⟩⟩
   · simp only[seval,zI,Ny]
   · simp only[seval,zI,Ny];rw[if_neg (by omega)]
   · simp only[seval,zI,Ny]
     try omega
   simp only[sm,zB,seval]
 rintro m f2 H2 dP ⟨js,j1,j2,j3,gi,g0,eZ,tV⟩
 have vO:∀j,j<F.length->bs.getD j 0∈(js.map fun j=>bs.getD j 0)->j∈js:=fun j hj hm=>by obtain⟨x,x1,x2⟩:=Bf.1 hm;have hx:=j2 x x1;rw[<-ky hbn (by omega) (by omega) x2];exact x1
 refine aG fun K2 bK=>?_;simp only[↓zP,zG,seval];refine NF (by decide) (by simp only[↓zP,seval,dP 73 rfl]) gi g0 (fun bM=>?_) fun j hj hnj=>?_
 · simp only[↓zP,zG,seval];apply bK;clear bK K2;simp only[↓zP,zG,seval];apply hK;clear hK K
   have Tz:(js.map fun j=>F.getD j (V0,0)).Perm F:=by
    have h1:=(Yb j1 j2 fun j hj=>vO j hj (bM _ (by
     simp only[List.getD,Ab (show j<bs.length by omega),Bi]
     exact Ac _))).map fun j=>F.getD j (V0,0)
    rwa [OX] at h1
   have QD:∀S1:List (aI.V×Int),S1.Perm F->(S1.Pairwise fun a b=>¬iI b.1 a.1)->S1=S:=fun S1 h1 h2=>(oV.cp hF.nd hFm h1 h2).uniq hS
   have hFl:F.length<=2^20:=by have h1:=BW hF.nd hF.is;have h2:l.length*(l.length*(l.length*2))<=64*(64*(64*2)):=Bq hlen (Bq hlen (Bq hlen (Ak _)));omega
   rcases tV with ⟨rfl,hv⟩|⟨uS,cK,hv,gr,hr1,hr2,hr3⟩
   · simp only[zM] at hv;simp only[↓zP,zG,seval,hv];refine bW (lP Tryz.aBr rfl TR 167 _) ?_;simp only[↓zP,zG,seval,hv];have hS0:[]=S:=QD [] Tz List.Pairwise.nil;refine Rx ?_;rw[<-hS0];exact⟨_,0,rfl,fun nw=>rfl⟩
   simp only[zM] at hv;simp only[↓zP,zG,seval,hv];generalize hS0:(js.map fun j=>F.getD j (V0,0))=S0 at Tz;have Mk:(S0.map plV).length=js.length:=(by rw[<-hS0];simp);have bHw:=Tz.length_eq;obtain⟨d',q1,q2,q3⟩:=aBs (S0.map plV) (by simp only[Ai];omega)
   have VI:H2.get uS=some (.cells ((mD (S0.map plV)).map (AV.int .i64)) true):=by rw[gr,PG,<-hS0,En];rfl
   have hc:=q3 H2 uS true VI;rw[Mk] at hc;refine bW (hc) ?_;simp only[↓zP,zG,seval,hv];have rV:d'=(d'.map q9).map plV:=by rw[En];exact(Ej (g:=id) (fun x _=>TY x)).trans (Hx d') |>.symm
   have hS1:d'.map q9=S:=QD _ (by
    have h1:=q1.map q9;rw[En,show(q9∘plV)=id from funext aHt,Hx] at h1
    exact h1.trans Tz) (by
     rw[Ih]
     exact q2.imp fun h h2=>h ((BE _ _).2 h2))
   rw[rV,hS1,PG];refine Rx ?_;have Zq:(S.map lF).length=js.length:=(by rw[<-hS1,Ai,Ai,q1.length_eq,Mk]);have wg:¬(S.map lF=[]):=fun h=>cK (Cw (by rw[<-Zq,h];rfl));refine⟨_,0,rfl,fun nw=>?_⟩;rw[<-Zq,kC,if_neg wg];refine WQ (by rw[aA.aC,if_pos rfl]) (fun e he=>?_) (dW BD S) nw;obtain⟨q,_,rfl⟩:=Bf.1 he;rfl
 have hjF:j<F.length:=by omega
 have hkj:(uZ F).getD j (aD,aD)=(.agg (lF (F.getD j (V0,0))),.bool true):=by simp[uZ,List.getD,hjF]
 have hjs:j∉js:=fun h=>hnj (Bf.2 ⟨j,h,rfl⟩);have Mk:(js++[j]).length=js.length+1:=by simp
 have hm1:js.length+1<=F.length:=by
  have :=tY (js++[j]) (List.range F.length) (List.nodup_append.2 ⟨j1,by simp,fun a ha b hb=>by
   simp only[Ap,Br,Dq] at hb;rintro rfl
   exact hjs (hb▸ha)⟩) (fun x hx=>by
   rw[Ba]
   rcases An.1 hx with h|h
   · exact j2 x h
   simp only[Ap,Br,Dq] at h
   omega)
  rwa [Bp,Mk] at this
 rw[hkj];simp only[↓zP,zG,seval];apply bK;clear bK K2;have g2:(H2.set it (.iter 0 mb c ((js.map fun j=>bs.getD j 0)++[bs.getD j 0]))).get 0=some (.sT (uZ F) bs c mb):=by rw[aA.aC,if_neg (by omega),g0]
 have g1:(H2.set it (.iter 0 mb c ((js.map fun j=>bs.getD j 0)++[bs.getD j 0]))).get it=some (.iter 0 mb c ((js.map fun j=>bs.getD j 0)++[bs.getD j 0])):=by rw[aA.aC,if_pos rfl]
 simp only[↓zP,zG,seval];refine aF ?_;refine bQ ?_;simp only[↓zP,seval];refine UO (by decide) (by simp only[↓zP,zG,seval,dP 73 rfl]) g1 g2 hj ?_;rw[hkj];have p4:(lF (F.getD j (V0,0))).length=4:=rfl;generalize hq:F.getD j (V0,0)=q at *;simp only[↓zP,zJ,seval,oL p4];refine bR ?_;generalize hH4:((H2.set it _).alloc _).set _ _=H4;have k1:H4.get H2.next=some (.cells (lF q) false):=by rw[<-hH4,aA.aC,if_pos rfl]
 have k2:H4.get it=some (.iter 0 mb c ((js++[j]).map fun j=>bs.getD j 0)):=by rw[<-hH4,aA.aC,if_neg (by omega),aA.aJ,aA.aW,if_neg (by omega),g1,Cf];rfl
 have k3:H4.get 0=some (.sT (uZ F) bs c mb):=by rw[<-hH4,aA.aC,if_neg (by omega),aA.aJ,aA.aW,if_neg (by omega),g2]
 have k4:H4.next=H2.next+1:=by rw[<-hH4];simp only[aA.aW,aA.aZ]
 have k5:∀r,¬(r=it)->r<H2.next->H4.get r=H2.get r:=fun r h1 h2=>by rw[<-hH4,aA.aC,if_neg (by omega),aA.aJ,aA.aW,if_neg (by omega),aA.aC,if_neg (by omega)]
 clear hH4 g1 g2
 have hjn:(js++[j]).Nodup:=List.nodup_append.2 ⟨j1,by simp,fun a ha b hb=>by
  simp only[Ap,Br,Dq] at hb;rintro rfl
  exact hjs (hb▸ha)⟩
 have hjb:∀x∈js++[j],x<F.length:=fun x hx=>by
  rcases An.1 hx with h|h
  · exact j2 x h
  simp only[Ap,Br,Dq] at h;omega
 have hje:¬(js++[j]=[]):=by simp
 have hFl:F.length<=2^20:=by have h1:=BW hF.nd hF.is;have h2:l.length*(l.length*(l.length*2))<=64*(64*(64*2)):=Bq hlen (Bq hlen (Bq hlen (Ak _)));omega
 rcases tV with ⟨rfl,hv⟩|⟨uS,cK,hv,gr,hr1,hr2,hr3⟩
 · simp only[zM] at hv;have ha:=zS (H:=H4) (sz:=4) (bytes:=32) (ys:=[lF q]) rfl (by simp only[Aq,Bj];omega);simp only[↓zP,zJ,seval,hv,k1,oL p4];rw[show cQ H4 4 (.aU 1 4 [lF q])=some [lF q] from rfl];simp only[ha,bZ];refine⟨m -1,?_,[]++[j],hjn,hjb,?_,?_,?_,?_,.inr ⟨H4.next,hje,rfl,?_,?_,?_,?_⟩⟩
   · simp only[Bj] at *;omega
   · simp only[Bj] at *;omega
   · rw[aA.aJ,if_neg (by omega),k2]
   · rw[aA.aJ,if_neg (by omega),k3]
   · simp only[aA.aZ];omega
   · rw[aA.aJ,if_pos rfl];simp only[Bv,Fg,Dw,hq]
   · simp only[aA.aZ];omega
   · omega
   omega
 simp only[zM] at hv;have gr4:=(k5 uS (fun h=>hr3 h.symm) hr1).trans gr
 have aa:((js.map fun j=>lF (F.getD j (V0,0))).flatten).length=js.length*4:=by rw[oN (sz:=4) (fun e he=>?_),Ai];obtain⟨x,_,rfl⟩:=Bf.1 he;rfl
 have ha:=zT (H:=H4) (sz:=4) (bytes:=32) (ys:=[lF q]) gr4 aa rfl (by simp only[Aq,Bj];omega) (by decide);simp only[↓zP,zJ,seval,hv,k1,oL p4];rw[show cQ H4 4 (.aU 1 4 [lF q])=some [lF q] from rfl];simp only[ha,bZ];refine⟨m -1,?_,js++[j],hjn,hjb,?_,?_,?_,?_,.inr ⟨H4.next,hje,?_,?_,?_,?_,?_⟩⟩
 · omega
 · omega
 · rw[aA.aJ,aA.aW,if_neg (by omega),aA.aC,if_neg (by omega),k2]
 · rw[aA.aJ,aA.aW,if_neg (by omega),aA.aC,if_neg (by omega),k3]
 · simp only[aA.aZ,aA.aW];omega
 · rw[Mk];rfl
 · rw[aA.aJ,aA.aW,if_pos rfl];simp only[Cf,Bv,Fg,Fo,hq]
 · simp only[aA.aZ,aA.aW];omega
 · omega
 omega
end Go.Proofs.YtndkpgceodimiaaGreatDoor
