/-
  Part of the proof of statement 12
-/
import Derived.Test.YtgggiembljfnhaaGreatDoorB17
import Derived.Test.YtgggiembljfnhaaGreatDoorB20
import Derived.Test.YtgggiembljfnhaaGreatDoorB06
import Derived.Test.YtgggiembljfnhaaGreatDoorB07
import Derived.Test.YtgggiembljfnhaaGreatDoorProg
import Derived.Shelf.SlSortCmp.NoneTotal
import Derived.Ground.SlsfProg
set_option linter.unusedVariables false
set_option linter.unusedSimpArgs false
set_option maxRecDepth 100000
set_option maxHeartbeats 16000000
namespace Go.Proofs
open Go.Shelf
def Tryz.nr:Go.Shelf.Ren:=⟨fun |6=>208|15=>277|14=>276|28=>256|29=>323|20=>315|21=>316|22=>317|23=>318|24=>319|25=>320|26=>321|27=>322|46=>353|47=>354|48=>355|49=>356|50=>357|57=>378|n=>n,fun |22=>228|24=>231|25=>279|3=>3|39=>181|0=>0|53=>84|55=>180|4=>4|46=>368|45=>367|50=>268|5=>5|9=>9|66=>385|70=>389|76=>402|77=>403|n=>n,fun |n=>n⟩
theorem Tryz.aBw:Go.Proofs.SlLaysF0.n6 Tryz.prog Tryz.nr:={
 mixed:=by kernel_rfl
 f6:=⟨Tryz.f208.name,by decide,Tryz.func208.trans (Bn some (by kernel_rfl))⟩
 f14:=⟨Tryz.f276.name,by decide,Tryz.func276.trans (Bn some (by kernel_rfl))⟩
 f15:=Tryz.func277.trans (Bn some (by kernel_rfl))
 f20:=⟨Tryz.f315.name,by decide,Tryz.func315.trans (Bn some (by kernel_rfl))⟩
 f21:=⟨Tryz.f316.name,by decide,Tryz.func316.trans (Bn some (by kernel_rfl))⟩
 f22:=⟨Tryz.f317.name,by decide,Tryz.func317.trans (Bn some (by kernel_rfl))⟩
 f23:=⟨Tryz.f318.name,by decide,Tryz.func318.trans (Bn some (by kernel_rfl))⟩
 f24:=⟨Tryz.f319.name,by decide,Tryz.func319.trans (Bn some (by kernel_rfl))⟩
 f25:=⟨Tryz.f320.name,by decide,Tryz.func320.trans (Bn some (by kernel_rfl))⟩
 f26:=⟨Tryz.f321.name,by decide,Tryz.func321.trans (Bn some (by kernel_rfl))⟩
 f27:=⟨Tryz.f322.name,by decide,Tryz.func322.trans (Bn some (by kernel_rfl))⟩
 f28:=Tryz.func256.trans (Bn some (by kernel_rfl))
 f29:=Tryz.func323.trans (Bn some (by kernel_rfl))
 f46:=⟨Tryz.f353.name,by decide,Tryz.func353.trans (Bn some (by kernel_rfl))⟩
 f47:=Tryz.func354.trans (Bn some (by kernel_rfl))
 f48:=Tryz.func355.trans (Bn some (by kernel_rfl))
 f49:=⟨Tryz.f356.name,by decide,Tryz.func356.trans (Bn some (by kernel_rfl))⟩
 f50:=⟨Tryz.f357.name,by decide,Tryz.func357.trans (Bn some (by kernel_rfl))⟩
 f57:=⟨Tryz.f378.name,by decide,Tryz.func378.trans (Bn some (by kernel_rfl))⟩
 t0:=Tryz.underlying0
 a0:=Tryz.isAgg0
 z0:=Tryz.sizeOf0
 v0:=Tryz.zeroValue0
 t3:=Tryz.underlying3
 a3:=Tryz.isAgg3
 z3:=Tryz.sizeOf3
 v3:=Tryz.zeroValue3
 t4:=Tryz.underlying4
 a4:=Tryz.isAgg4
 z4:=Tryz.sizeOf4
 v4:=Tryz.zeroValue4
 t5:=Tryz.underlying5
 a5:=Tryz.isAgg5
 z5:=Tryz.sizeOf5
 v5:=Tryz.zeroValue5
 t9:=Tryz.underlying9
 a9:=Tryz.isAgg9
 z9:=Tryz.sizeOf9
 v9:=Tryz.zeroValue9
 t22:=Tryz.underlying228
 a22:=Tryz.isAgg228
 z22:=Tryz.sizeOf228
 v22:=Tryz.zeroValue228
 t25:=Tryz.underlying279
 a25:=Tryz.isAgg279
 z25:=Tryz.sizeOf279
 v25:=Tryz.zeroValue279
 t39:=Tryz.underlying181
 a39:=Tryz.isAgg181
 z39:=Tryz.sizeOf181
 v39:=Tryz.zeroValue181
 t45:=Tryz.underlying367
 a45:=Tryz.isAgg367
 z45:=Tryz.sizeOf367
 v45:=Tryz.zeroValue367
 t46:=Tryz.underlying368
 a46:=Tryz.isAgg368
 z46:=Tryz.sizeOf368
 v46:=Tryz.zeroValue368
 t50:=Tryz.underlying268
 a50:=Tryz.isAgg268
 z50:=Tryz.sizeOf268
 v50:=Tryz.zeroValue268
 t53:=Tryz.underlying84
 a53:=Tryz.isAgg84
 z53:=Tryz.sizeOf84
 v53:=Tryz.zeroValue84
 t55:=Tryz.underlying180
 a55:=Tryz.isAgg180
 z55:=Tryz.sizeOf180
 v55:=Tryz.zeroValue180
 t66:=Tryz.underlying385
 a66:=Tryz.isAgg385
 z66:=Tryz.sizeOf385
 v66:=Tryz.zeroValue385
 t70:=Tryz.underlying389
 a70:=Tryz.isAgg389
 z70:=Tryz.sizeOf389
 v70:=Tryz.zeroValue389
 t76:=Tryz.underlying402
 a76:=Tryz.isAgg402
 z76:=Tryz.sizeOf402
 v76:=Tryz.zeroValue402
 t77:=Tryz.underlying403
 a77:=Tryz.isAgg403
 z77:=Tryz.sizeOf403
 v77:=Tryz.zeroValue403}
def Tryz.nt:Go.Shelf.Ren:=⟨fun |6=>271|15=>277|14=>314|28=>256|29=>323|20=>345|21=>346|22=>347|23=>348|24=>349|25=>350|26=>351|27=>352|46=>375|47=>354|48=>355|49=>376|50=>377|57=>384|n=>n,fun |22=>30|24=>60|25=>274|3=>3|39=>181|0=>0|53=>84|55=>180|4=>4|46=>368|45=>367|50=>268|5=>5|9=>9|66=>385|70=>389|76=>402|77=>403|n=>n,fun |n=>n⟩
theorem Tryz.aBy:Go.Proofs.SlLaysF0.n6 Tryz.prog Tryz.nt:={
 mixed:=by kernel_rfl
 f6:=⟨Tryz.f271.name,by decide,Tryz.func271.trans (Bn some (by kernel_rfl))⟩
 f14:=⟨Tryz.f314.name,by decide,Tryz.func314.trans (Bn some (by kernel_rfl))⟩
 f15:=Tryz.func277.trans (Bn some (by kernel_rfl))
 f20:=⟨Tryz.f345.name,by decide,Tryz.func345.trans (Bn some (by kernel_rfl))⟩
 f21:=⟨Tryz.f346.name,by decide,Tryz.func346.trans (Bn some (by kernel_rfl))⟩
 f22:=⟨Tryz.f347.name,by decide,Tryz.func347.trans (Bn some (by kernel_rfl))⟩
 f23:=⟨Tryz.f348.name,by decide,Tryz.func348.trans (Bn some (by kernel_rfl))⟩
 f24:=⟨Tryz.f349.name,by decide,Tryz.func349.trans (Bn some (by kernel_rfl))⟩
 f25:=⟨Tryz.f350.name,by decide,Tryz.func350.trans (Bn some (by kernel_rfl))⟩
 f26:=⟨Tryz.f351.name,by decide,Tryz.func351.trans (Bn some (by kernel_rfl))⟩
 f27:=⟨Tryz.f352.name,by decide,Tryz.func352.trans (Bn some (by kernel_rfl))⟩
 f28:=Tryz.func256.trans (Bn some (by kernel_rfl))
 f29:=Tryz.func323.trans (Bn some (by kernel_rfl))
 f46:=⟨Tryz.f375.name,by decide,Tryz.func375.trans (Bn some (by kernel_rfl))⟩
 f47:=Tryz.func354.trans (Bn some (by kernel_rfl))
 f48:=Tryz.func355.trans (Bn some (by kernel_rfl))
 f49:=⟨Tryz.f376.name,by decide,Tryz.func376.trans (Bn some (by kernel_rfl))⟩
 f50:=⟨Tryz.f377.name,by decide,Tryz.func377.trans (Bn some (by kernel_rfl))⟩
 f57:=⟨Tryz.f384.name,by decide,Tryz.func384.trans (Bn some (by kernel_rfl))⟩
 t0:=Tryz.underlying0
 a0:=Tryz.isAgg0
 z0:=Tryz.sizeOf0
 v0:=Tryz.zeroValue0
 t3:=Tryz.underlying3
 a3:=Tryz.isAgg3
 z3:=Tryz.sizeOf3
 v3:=Tryz.zeroValue3
 t4:=Tryz.underlying4
 a4:=Tryz.isAgg4
 z4:=Tryz.sizeOf4
 v4:=Tryz.zeroValue4
 t5:=Tryz.underlying5
 a5:=Tryz.isAgg5
 z5:=Tryz.sizeOf5
 v5:=Tryz.zeroValue5
 t9:=Tryz.underlying9
 a9:=Tryz.isAgg9
 z9:=Tryz.sizeOf9
 v9:=Tryz.zeroValue9
 t22:=Tryz.underlying30
 a22:=Tryz.isAgg30
 z22:=Tryz.sizeOf30
 v22:=Tryz.zeroValue30
 t25:=Tryz.underlying274
 a25:=Tryz.isAgg274
 z25:=Tryz.sizeOf274
 v25:=Tryz.zeroValue274
 t39:=Tryz.underlying181
 a39:=Tryz.isAgg181
 z39:=Tryz.sizeOf181
 v39:=Tryz.zeroValue181
 t45:=Tryz.underlying367
 a45:=Tryz.isAgg367
 z45:=Tryz.sizeOf367
 v45:=Tryz.zeroValue367
 t46:=Tryz.underlying368
 a46:=Tryz.isAgg368
 z46:=Tryz.sizeOf368
 v46:=Tryz.zeroValue368
 t50:=Tryz.underlying268
 a50:=Tryz.isAgg268
 z50:=Tryz.sizeOf268
 v50:=Tryz.zeroValue268
 t53:=Tryz.underlying84
 a53:=Tryz.isAgg84
 z53:=Tryz.sizeOf84
 v53:=Tryz.zeroValue84
 t55:=Tryz.underlying180
 a55:=Tryz.isAgg180
 z55:=Tryz.sizeOf180
 v55:=Tryz.zeroValue180
 t66:=Tryz.underlying385
 a66:=Tryz.isAgg385
 z66:=Tryz.sizeOf385
 v66:=Tryz.zeroValue385
 t70:=Tryz.underlying389
 a70:=Tryz.isAgg389
 z70:=Tryz.sizeOf389
 v70:=Tryz.zeroValue389
 t76:=Tryz.underlying402
 a76:=Tryz.isAgg402
 z76:=Tryz.sizeOf402
 v76:=Tryz.zeroValue402
 t77:=Tryz.underlying403
 a77:=Tryz.isAgg403
 z77:=Tryz.sizeOf403
 v77:=Tryz.zeroValue403}
end Go.Proofs
namespace Go.Proofs.YtgggiembljfnhaaGreatDoor
open Go Go.Av Go.aP
attribute [local congr] aT aI aL aH aX aQ aM aF aY
attribute [local irreducible] FC bS eF
theorem AZ (p q:aP.V×Int):VW p q<0↔iY p.1 q.1:=by
 unfold VW orZ zS iY
 rcases Ge p.1.x q.1.x with h|h|h
 . simp[h]
 . rcases Ge p.1.y q.1.y with h2|h2|h2
   . simp[h,h2]
   . rcases Ge p.1.z q.1.z with h3|h3|h3
     . simp[h,h2,h3]
     . simp[h,h2,h3]
     simp[h,h2,h3,Int.lt_asymm h3]
   simp[h,h2,Int.lt_asymm h2,Jq h2]
 simp[h,Int.lt_asymm h,Jq h]
def plV (q:aP.V×Int):JG 4:=⟨[q.1.x,q.1.y,q.1.z,q.2],rfl⟩
def qg (x:JG 4):aP.V×Int:=(⟨x.1.getD 0 0,x.1.getD 1 0,x.1.getD 2 0⟩,x.1.getD 3 0)
theorem aIf (q:aP.V×Int):qg (plV q)=q:=rfl
theorem TM (x:JG 4):plV (qg x)=x:=by
 obtain⟨l,hl⟩:=x
 match l,hl with
 |[a,b,c,d],_=>rfl
theorem UW (q:aP.V×Int):XJ (plV q)=lF q:=rfl
theorem Ot:∀S:List (aP.V×Int),(pM (S.map plV)).map (AV.int .i64)=(S.map lF).flatten
 |[]=>rfl
 |q::S=>by have :=Ot S;simp only[pM,Cb,Fe,Ct,Bl] at this ⊢;rw[this];rfl
theorem bDv:Go.Sort.SWO (Go.Proofs.ltOf fun x y:JG 4=>VW (qg x) (qg y)) where
 irrefl x:=by simp only[Go.Proofs.ltOf,AZ,Bh];exact iY.j9 _
 trans x y z h1 h2:=by simp only[Go.Proofs.ltOf,AZ,Bd] at *;exact iY.trans h1 h2
 ntrans x y z h1 h2:=by simp only[Go.Proofs.ltOf,AZ,Bh] at *;unfold iY at *;omega
def uQ (K:List (aP.V×Int)):List (AV×AV):=K.map fun q=>(.agg (lF q),.bool true)
theorem jc (p q:aP.V×Int):cL [.i,.i,.i,.i] (lF p) (lF q)=some (decide (p=q)):=by obtain⟨⟨a,b,c⟩,d⟩:=p;obtain⟨⟨a',b',c'⟩,d'⟩:=q;simp only[lF,cL,if_true,Bu,Ak,V.mk.injEq,Fb];congr 1;rw[Ci];simp[and_assoc]
theorem ke {bs:List Nat} (h:bs.Nodup) {i j:Nat} (hi:i<bs.length) (hj:j<bs.length) (e:bs.getD i 0=bs.getD j 0):i=j:=by
 simp only[List.getD,Ad hi,Ad hj,Bi] at e;have hp:=Gc.1 h
 rcases Jh i j with h1|h1|h1
 . exact absurd e (hp i j hi hj h1)
 . exact h1
 exact absurd e.symm (hp j i hj hi h1)
theorem ZV (q:aP.V×Int):∀(K:List (aP.V×Int)) (n:Nat),(q∈K->∃i,kD (.f [.i,.i,.i,.i]) (.agg (lF q)) (uQ K) n=some (some (i,.bool true)))/\(q∉K->kD (.f [.i,.i,.i,.i]) (.agg (lF q)) (uQ K) n=some none)
 |[],n=>⟨fun h=>(nomatch h),fun _=>rfl⟩
 |x::K,n=>by
  obtain⟨h1,h2⟩:=ZV q K (n+1);simp only[uQ,Cb,kD,sameKey,jc] at h1 h2 ⊢;by_cases e:q=x
  . subst e;simp
  simp only[e,Iv,Am,false_or];exact⟨h1,h2⟩
theorem UX (v:aP.V):cL [.i,.i,.i] (cU v) [.int .i64 0,.int .i64 0,.int .i64 0]=some (decide (v=V0)):=by obtain⟨a,b,c⟩:=v;simp only[cU,cL,if_true,Bu,V0,V.mk.injEq,Fb];congr 1;rw[Ci];simp
theorem IN {l:List aP.V} {q:aP.V×Int}:CZ l q=true↔(∀k,k<l.length->aP.dot q.1 (l.getD k V0)<=q.2)/\∃k,k<l.length/\aP.dot q.1 (l.getD k V0)<q.2:=by
 have hg:∀k (h:k<l.length),l.getD k V0=l[k]:=fun k h=>by simp[List.getD,h]
 simp only[CZ,Al,Aw,Bd,Cn,<-Ei,Cf];constructor
 . rintro⟨h1,h2⟩;refine⟨fun k hk=>by rw[hg k hk];exact h1 _ (Ac hk),?_⟩;refine Cr fun hc=>h2 fun v hv=>?_;obtain⟨k,hk,rfl⟩:=Ej hv;have a1:=h1 _ (Ac hk);have a2:¬aP.dot q.1 l[k]<q.2:=fun hh=>hc ⟨k,hk,by rw[hg k hk];exact hh⟩;omega
 rintro⟨h1,k,hk,h2⟩;refine⟨fun v hv=>?_,fun h=>?_⟩
 . obtain⟨k,hk,rfl⟩:=Ej hv;have :=h1 k hk
   rwa [hg k hk] at this
 have :=h _ (Ac hk);rw[hg k hk] at h2;omega
structure Found (l:List aP.V) (i j k:Nat) (K:List (aP.V×Int)) (H:aA):Prop where
 nd:K.Nodup
 is:∀q∈K,pS (fun i=>l.getD i V0) l.length q.1 q.2
 tr:rZ (fun i=>l.getD i V0) l.length i j k K
 mp:H.get 0=some (.map (uQ K))
 nx:1<=H.next
 fr:cJ H
theorem Found.heap {l:List aP.V} {i j k:Nat} {K:List (aP.V×Int)} {H H':aA} (h:Found l i j k K H) (h0:H'.get 0=H.get 0) (hn:H.next<=H'.next) (hf:cJ H'):Found l i j k K H':=
 ⟨h.nd,h.is,h.tr,h0.trans h.mp,Cd h.nx hn,hf⟩
theorem Found.to {l:List aP.V} {i j k i' j' k':Nat} {K:List (aP.V×Int)} {H:aA} (h:Found l i j k K H) (ht:rZ (fun i=>l.getD i V0) l.length i' j' k' K):Found l i' j' k' K H:=⟨h.nd,h.is,ht,h.mp,h.nx,h.fr⟩
theorem TI:Mp Tryz.prog 208:=⟨_,Tryz.func208,by kernel_rfl,by kernel_rfl⟩
theorem aBx (d:List (JG 4)) (hd:d.length<4611686018427387904):
 ∃d':List (JG 4),d'.Perm d/\(d'.Pairwise fun a b=>¬VW (qg b) (qg a)<0)/\∀(H:aA) (id:Nat) (eN:Bool),H.get id=some (.cells ((pM d).map (AV.int .i64)) eN)->
  Sg 208 [.sl id 4 0 d.length d.length,.func (.func 209) [] []] H (.ret (.iA [])) (H.set id (.cells ((pM d').map (AV.int .i64)) eN)):=
 Mv (fun _=>rfl) Tryz.aBw (by decide) Tryz.isAgg231 Tryz.sizeOf231 rfl TI (VX (V0,0) (V0,0) ⟨0,.nil⟩).1 bDv (fun x y=>by
  have :=VX (qg x) (qg y) ⟨0,.nil⟩
  rwa [<-UW,<-UW,TM,TM] at this) d hd
theorem RR {tag:Nat} (ht:Nat.blt tag 2=true) {l:List aP.V} {M:Nat} (hl:∀v∈l,cG M v) (hM:M<=2^18) (hlen:l.length<=64) {S:List (aP.V×Int)} (hS:pB (fun i=>l.getD i V0) l.length S) (H:aA):
 Sg 155 [.bD tag 3 (cH l)] H (.ret (lG 4 (S.map lF))) H:=by
 refine eC fit eZ aKb (Ai rfl) ZaK ?_ H;unfold aDd;dsimp only;have cY:∀k (h:k<l.length),l.getD k V0=l[k]:=fun k h=>by simp[List.getD,h]
 refine bQ ?_;refine Tz ?_;refine fF ?_;refine Ty ?_;refine bR ?_;refine aN fun K hK=>?_;refine bQ ?_;refine Ty ?_;refine bR ?_;refine cV [] (fun i _ H=>∃K,Found l i 0 0 K H) l.length (by omega) (by decide) ?_ ?_ ?_ ?_ ?_
 . exact zq
 . simp only[zB,seval,aU]
 . refine⟨[],Kd,fun q hq=>(nomatch hq),rZ.zero,?_,Ab _,(cJ.nil 0).alloc _⟩;rfl
 . rintro i f H hi hk e1 ⟨F,hF⟩;refine aJ ?_;refine bQ ?_;simp only[↓zP,zG,seval,e1];refine fF ?_;refine Tz ?_;refine bR ?_;refine cV [] (fun j _ H=>∃K,Found l i j 0 K H) i (by omega) (by decide) ?_ ?_ ?_ ?_ ?_
   . exact zq
   . exact zq
   . exact⟨F,hF⟩
   . clear hF F;rintro j f2 H2 hj eP e2 ⟨F,hF⟩;refine aJ ?_;refine bQ ?_;simp only[↓zP,zG,seval,e2];refine fF ?_;refine Tz ?_;refine bR ?_;refine cV [] (fun k _ H=>∃K,Found l i j k K H) j (by omega) (by decide) ?_ ?_ ?_ ?_ ?_
     . exact zq
     . exact zq
     . exact⟨F,hF⟩
     . clear hF F;rintro k f3 H3 wz oT e3 ⟨F,hF⟩;have MP:j<l.length:=(by omega);have tQ:k<l.length:=(by omega);have gi:=dD hi;have gj:=dD MP;have gk:=dD tQ;have ni:=hl _ (Ac hi);have nj:=hl _ (Ac MP);have nk:=hl _ (Ac tQ)
       have nS:JA l[i] l[j] l[k]=fC (fun i=>l.getD i V0) i j k:=by simp only[JA,fC,vec,cY i hi,cY j MP,cY k tQ]
       refine aJ ?_;refine bQ ?_;simp only[↓zP,zG,seval,e3];refine fF ?_;refine jV 1 (by decide) hF.fr.at1 fun H1 n1 e1'=>?_;have cQ:¬(0=H3.next):=(by have :=hF.nx;omega);simp only[↓zP,zJ,seval,zD,oT 0 rfl,oT 4 rfl,oT 5 rfl,eP 0 rfl,eP 4 rfl,hk 0 rfl,aB,aU,hi,MP,tQ,gi,gj,gk,oL (aV l[i]),oL (aV l[j]),oL (aV l[k])];refine fP (Yt ni nj nk hM _) ?_;rw[nS]
       have Xi:cG (2*((M+M)*(M+M))) (fC (fun i=>l.getD i V0) i j k).1:=by rw[<-nS];exact sZ (oB (gM nj ni) (gM nk ni))
       have hT2:(fC (fun i=>l.getD i V0) i j k).2.natAbs<=3*(2*((M+M)*(M+M))*M):=by rw[<-nS];exact AB (sZ (oB (gM nj ni) (gM nk ni))) ni
       have hcd:∀q∈jB (fun i=>l.getD i V0) i j k,CZ l q=true->pS (fun i=>l.getD i V0) l.length q.1 q.2:=fun q hq ho=>xS hi MP tQ hq (IN.1 ho).1 (IN.1 ho).2;have hMM:(M+M)*(M+M)<=2^19*2^19:=Bt (by omega) (by omega);have aVg:2*((M+M)*(M+M))*M<=2^39*2^18:=Bt (by omega) (by omega);have hB0:2*((M+M)*(M+M))<=2^39:=by omega
       have Np:jB (fun i=>l.getD i V0) i j k=if(fC (fun i=>l.getD i V0) i j k).1=V0 then [] else [fC (fun i=>l.getD i V0) i j k,(aP.neg (fC (fun i=>l.getD i V0) i j k).1,-(fC (fun i=>l.getD i V0) i j k).2)]:=rfl
       generalize fC (fun i=>l.getD i V0) i j k=T at *;generalize hBB:2*((M+M)*(M+M))=B at *;have p4:(lF T).length=4:=rfl;have p3:(lF T).take 3=cU T.1:=rfl;have p1:(lF T).getD 3 aD=.int .i64 T.2:=rfl;simp only[↓zP,zJ,seval,zD,n1,oL p4];refine bR ?_;generalize hX:(H1.set H3.next _).set H3.next _=H4;have fr1:cJ H1:=fun j hj=>by rw[e1'];exact hF.fr j (by omega)
       have hF4:Found l i j k F H4:=hF.heap (by subst hX;rw[aA.aC,if_neg cQ,aA.aC,if_neg cQ,e1']) (by subst hX;simp only[aA.aW];omega)
        (by subst hX;exact(fr1.set (by omega) _).set Za7 _)
       have g7:H4.get H3.next=some (.cells (lF T) false):=(by subst hX;simp only[seval,zI]);have j6:H3.next<H4.next:=(by subst hX;simp only[aA.aW];omega);clear hX e1' n1 fr1;clear hF;generalize H3.next=r at *;refine aN fun K2 bW=>?_;simp only[↓zP,zJ,seval,g7,oL p4,p3,UX];refine⟨fun hz=>?_,fun hz=>?_⟩
       . refine⟨F,hF4.to (hF4.tr.step (fun q h=>h) fun q hq=>?_)⟩;rw[Np,if_pos hz] at hq;cases hq
       apply bW;clear bW K2;rw[if_neg hz] at Np;have wn:IntKind.i64.wrap (0 -T.2)= -T.2:=(fV (B:=3*(B*M)) (by omega) (by omega)).trans (by omega);have xg:[AV.int .i64 (aP.neg T.1).x,.int .i64 (aP.neg T.1).y,.int .i64 (aP.neg T.1).z,.int .i64 (-T.2)]=lF (aP.neg T.1,-T.2):=rfl;refine bQ ?_;refine Dz ?_;simp only[↓zP,zJ,seval,zD,g7,oL p4,p3];refine fP (dh Xi (by omega) _) ?_;simp only[↓zP,zJ,seval,zD,g7,oL p4,p1,wn,cU,xg,show(lF (aP.neg T.1,-T.2)).length=4 from rfl];refine bR ?_
       have JK:∀q∈jB (fun i=>l.getD i V0) i j k,cG B q.1:=fun q hq=>by
        rw[Np] at hq;simp only[Am,Bj,Df] at hq
        rcases hq with rfl|rfl
        . exact Xi
        exact IH Xi
       have yW:[lF T,lF (aP.neg T.1,-T.2)]=(jB (fun i=>l.getD i V0) i j k).map lF:=(by rw[Np];rfl);rw[yW];have Ze:(jB (fun i=>l.getD i V0) i j k).length=2:=(by rw[Np];rfl);generalize EW:jB (fun i=>l.getD i V0) i j k=cs at *;refine cV [] (fun s _ H=>∃K,Found l i j k K H/\∀q∈cs.take s,pS (fun i=>l.getD i V0) l.length q.1 q.2->q∈K) 2 (by decide) (by decide) ?_ ?_ ?_ ?_ ?_
       . exact zq
       . exact zq
       . exact⟨F,hF4,fun q hq=>(by simp at hq)⟩
       . clear hF4 F g7 j6 H4;rintro s f4 H4 hs PO e4 ⟨F,hF,HP⟩;have KM:s<cs.length:=(by omega);have hcg:(cs.map lF).getD s []=lF cs[s]:=gK KM;have hqm:=Ac KM;have aSp:(lF cs[s]).length=4:=rfl;have AJ:=hF.nx;have cQ:¬(0=H4.next):=(by omega);have qG:=YF ht hl (by omega) (JK _ hqm) (by omega)
         have aSb:∀q,q∈cs.take (s+1)->q∈cs.take s\/q=cs[s]:=fun q hq=>by
          rw[An,Ao] at hq
          rcases hq with h|h
          . exact .inl h
          simp[KM] at h;exact .inr h
         have bEv:=hcd _ hqm;generalize cs[s]=q at *;have LP:=ZV q F 0;have hmp:=hF.mp;have hFa:∀H5:aA,H5.get 0=H4.get 0->H5.next=H4.next+1->cJ H5->Found l i j k F H5:=fun H5 h1 h2 h3=>hF.heap h1 (by omega) h3;refine aJ ?_;by_cases gT:q∈F
         . obtain⟨ix,Zi⟩:=LP.1 gT;simp only[↓zP,zJ,seval,e4,PO 51 rfl,PO 3 rfl,oT 3 rfl,eP 3 rfl,hk 3 rfl,aB,Af,KM,hcg,oL aSp,cQ,HT,Gm,hmp,Zi];refine⟨F,hFa _ ?_ ?_ ?_,fun x hx RC=>?_⟩
           . rw[aA.aC,if_neg cQ,aA.aG,if_neg cQ]
           . simp only[aA.aW,aA.aR]
           . exact(hF.fr.alloc _).set (by simp) _
           rcases aSb x hx with h|rfl
           . exact HP x h RC
           exact gT
         have Zi:=LP.2 gT;simp only[↓zP,zJ,seval,e4,PO 51 rfl,PO 3 rfl,PO 0 rfl,oT 3 rfl,oT 0 rfl,eP 3 rfl,eP 0 rfl,hk 3 rfl,hk 0 rfl,aB,Af,KM,hcg,oL aSp,cQ,HT,Gm,hmp,Zi];refine bY (qG _) ?_
         cases hb:CZ l q with
         |false=>
          refine Tz ?_;refine⟨F,hFa _ ?_ ?_ ?_,fun x hx RC=>?_⟩
          . rw[aA.aC,if_neg cQ,aA.aG,if_neg cQ]
          . simp only[aA.aW,aA.aR]
          . exact(hF.fr.alloc _).set (by simp) _
          rcases aSb x hx with h|rfl
          . exact HP x h RC
          rw[IN.2 ⟨RC.le,RC.lt⟩] at hb;cases hb
         |true=>
          simp only[↓zP,zJ,seval,PO 3 rfl,oT 3 rfl,eP 3 rfl,hk 3 rfl,cQ,oL aSp,Gm,hmp,Zi];have hks:uQ (F++[q])=uQ F++[(AV.agg (lF q),AV.bool true)]:=(by simp[uQ]);refine⟨F++[q],⟨?_,fun x hx=>?_,fun a b c h1 h2 h3 h4 x hx RC=>List.mem_append_left _ (hF.tr a b c h1 h2 h3 h4 x hx RC),?_,?_,?_⟩,fun x hx RC=>?_⟩
          . rw[List.nodup_append];refine⟨hF.nd,by simp,fun a ha b HM=>?_⟩;simp only[Am,Bj,Df] at HM;subst HM;rintro rfl;exact gT ha
          . rcases Ao.1 hx with h|h
            . exact hF.is x h
            simp only[Am,Bj,Df] at h;subst h;exact bEv hb
          . rw[hks];simp only[seval,zI]
          . simp only[aA.aW,aA.aR];omega
          . exact((hF.fr.alloc _).set (by simp) _).set (by simp only[aA.aW,aA.aR];omega) _
          rcases aSb x hx with h|rfl
          . exact List.mem_append_left _ (HP x h RC)
          exact List.mem_append_right _ (by simp)
       rintro f4 H4 PO ⟨F,hF,HP⟩;refine Tx ?_;refine⟨F,hF.to (hF.tr.step (fun q h=>h) fun q hq hF'=>HP q ?_ hF')⟩;rw[Aq (by omega),<-EW];exact hq
     rintro f3 H3 oT ⟨F,hF⟩;refine Tx ?_;exact⟨F,hF.to hF.tr.down⟩
   rintro f2 H2 eP ⟨F,hF⟩;refine Tx ?_;exact⟨F,hF.to hF.tr.next⟩
 rintro f H hk ⟨F,hF⟩;refine Tx ?_;apply hK;clear hK K;have hFm:=hF.tr.all hF.is;have AJ:=hF.nx;have hmp:=hF.mp;refine bQ ?_;refine Tz ?_;refine bR ?_;refine aN fun K hK=>?_;refine bQ ?_;simp only[↓zP,zG,seval,hk 3 rfl];refine Kz (by decide) (by simp only[↓zP,seval]) hmp fun bs c mb Uq hbn=>?_;refine Tx ?_;refine bR ?_;have hlF:(uQ F).length=F.length:=by simp[uQ]
 rw[hlF] at Uq;generalize jQ:H.next=it at *;have bJm:¬(0=it):=by omega
 refine aJ ?_
 refine iP [10] (fun m vs H'=>∃js:List Nat,js.Nodup/\(∀j∈js,j<F.length)/\m+js.length=F.length/\H'.get it=some (.iter 0 mb c (js.map fun j=>bs.getD j 0))/\H'.get 0=some (.sN (uQ F) bs c mb)/\it<H'.next/\
  ((js=[]/\vs=[.aO])\/∃xC,js≠[]/\vs=[.sl xC 4 0 js.length js.length]/\H'.get xC=some (.cells (js.map fun j=>lF (F.getD j (V0,0))).flatten true)/\xC<H'.next/\¬(0=xC)/\¬(it=xC))) F.length (by rfl) ?_ ?_
 . refine⟨[],Kd,fun j hj=>(nomatch hj),rfl,?_,?_,?_,.inl ⟨rfl,?_⟩⟩
   . simp only[seval,zI,jQ]
   . simp only[seval,zI,jQ];rw[if_neg (by omega)]
   . simp only[seval,zI,jQ]
     try omega
   exact ZaN
 rintro m f2 H2 eP ⟨js,j1,j2,j3,gi,g0,fJ,rB⟩
 have FE:∀j,j<F.length->bs.getD j 0∈(js.map fun j=>bs.getD j 0)->j∈js:=fun j hj hm=>by obtain⟨x,x1,x2⟩:=Bf.1 hm;have hx:=j2 x x1;rw[<-ke hbn (by omega) (by omega) x2];exact x1
 refine aN fun K2 bW=>?_;refine Tz ?_;refine Mo (by decide) (by simp only[↓zP,seval,eP 73 rfl]) gi g0 (fun bU=>?_) fun j hj hnj=>?_
 . refine Tz ?_;apply bW;clear bW K2;refine Tz ?_;apply hK;clear hK K
   have xn:(js.map fun j=>F.getD j (V0,0)).Perm F:=by
    have h1:=(YJ j1 j2 fun j hj=>FE j hj (bU _ (by
     simp only[List.getD,Ad (show j<bs.length by omega),Bi]
     exact Ac _))).map fun j=>F.getD j (V0,0)
    rwa [ON] at h1
   have vo:∀S1:List (aP.V×Int),S1.Perm F->(S1.Pairwise fun a b=>¬iY b.1 a.1)->S1=S:=fun S1 h1 h2=>(pB.bm hF.nd hFm h1 h2).uniq hS
   have hFl:F.length<=2^20:=by have h1:=BQ hF.nd hF.is;have h2:l.length*(l.length*(l.length*2))<=64*(64*(64*2)):=Bt hlen (Bt hlen (Bt hlen (Ab _)));omega
   rcases rB with ⟨rfl,hv⟩|⟨xC,cQ,hv,gr,hr1,hr2,hr3⟩
   . simp only[zM] at hv;simp only[↓zP,zG,seval,hv];refine bY (pE Tryz.aBw rfl TI 209 _) ?_;simp only[↓zP,zG,seval,hv];have hS0:[]=S:=vo [] xn List.Pairwise.nil;refine Rx ?_;rw[<-hS0];exact⟨_,0,rfl,fun nw=>rfl⟩
   simp only[zM] at hv;simp only[↓zP,zG,seval,hv];generalize hS0:(js.map fun j=>F.getD j (V0,0))=S0 at xn;have MP:(S0.map plV).length=js.length:=(by rw[<-hS0];simp);have bJj:=xn.length_eq;obtain⟨d',q1,q2,q3⟩:=aBx (S0.map plV) (by simp only[Af];omega)
   have Qu:H2.get xC=some (.cells ((pM (S0.map plV)).map (AV.int .i64)) true):=by rw[gr,Ot,<-hS0,Gr];rfl
   have hc:=q3 H2 xC true Qu;rw[MP] at hc;refine bY (hc) ?_;simp only[↓zP,zG,seval,hv];have rM:d'=(d'.map qg).map plV:=by rw[Gr];exact(Fl (g:=id) (fun x _=>TM x)).trans (Ke d') |>.symm
   have hS1:d'.map qg=S:=vo _ (by
    have h1:=q1.map qg;rw[Gr,show(qg∘plV)=id from funext aIf,Ke] at h1
    exact h1.trans xn) (by
     rw[Ji]
     exact q2.imp fun h h2=>h ((AZ _ _).2 h2))
   rw[rM,hS1,Ot];refine Rx ?_;have hSl:(S.map lF).length=js.length:=(by rw[<-hS1,Af,Af,q1.length_eq,MP]);have hSn:¬(S.map lF=[]):=fun h=>cQ (Cm (by rw[<-hSl,h];rfl));refine⟨_,0,rfl,fun nw=>?_⟩;rw[<-hSl,lG,if_neg hSn];refine aBu Zbt (fun e he=>?_) (eK AY S) nw;obtain⟨q,_,rfl⟩:=Bf.1 he;rfl
 have hjF:j<F.length:=by omega
 have hkj:(uQ F).getD j (aD,aD)=(.agg (lF (F.getD j (V0,0))),.bool true):=by simp[uQ,List.getD,hjF]
 have hjs:j∉js:=fun h=>hnj (Bf.2 ⟨j,h,rfl⟩);have MP:(js++[j]).length=js.length+1:=by simp
 have hm1:js.length+1<=F.length:=by
  have :=tU (js++[j]) (List.range F.length) (List.nodup_append.2 ⟨j1,by simp,fun a ha b hb=>by
   simp only[Am,Bj,Df] at hb;rintro rfl
   exact hjs (hb▸ha)⟩) (fun x hx=>by
   rw[Ay]
   rcases Ao.1 hx with h|h
   . exact j2 x h
   simp only[Am,Bj,Df] at h
   omega)
  rwa [Bw,MP] at this
 rw[hkj];refine Tz ?_;apply bW;clear bW K2;have g2:(H2.set it (.iter 0 mb c ((js.map fun j=>bs.getD j 0)++[bs.getD j 0]))).get 0=some (.sN (uQ F) bs c mb):=by rw[aA.aC,if_neg (by omega),g0]
 have g1:(H2.set it (.iter 0 mb c ((js.map fun j=>bs.getD j 0)++[bs.getD j 0]))).get it=some (.iter 0 mb c ((js.map fun j=>bs.getD j 0)++[bs.getD j 0])):=by rw[aA.aC,if_pos rfl]
 refine Tz ?_;refine aJ ?_;refine bQ ?_;refine Tx ?_;refine UA (by decide) (by simp only[↓zP,zG,seval,eP 73 rfl]) g1 g2 hj ?_;rw[hkj];have p4:(lF (F.getD j (V0,0))).length=4:=rfl;generalize hq:F.getD j (V0,0)=q at *;simp only[↓zP,zJ,seval,oL p4];refine bR ?_;generalize hH4:((H2.set it _).alloc _).set _ _=H4;have k1:H4.get H2.next=some (.cells (lF q) false):=by rw[<-hH4,aA.aC,if_pos rfl]
 have k2:H4.get it=some (.iter 0 mb c ((js++[j]).map fun j=>bs.getD j 0)):=by rw[<-hH4,aA.aC,if_neg (by omega),aA.aG,aA.aW,if_neg (by omega),g1,Ct];rfl
 have k3:H4.get 0=some (.sN (uQ F) bs c mb):=by rw[<-hH4,aA.aC,if_neg (by omega),aA.aG,aA.aW,if_neg (by omega),g2]
 have k4:H4.next=H2.next+1:=by rw[<-hH4];simp only[aA.aW,aA.aR]
 have k5:∀r,¬(r=it)->r<H2.next->H4.get r=H2.get r:=fun r h1 h2=>by rw[<-hH4,aA.aC,if_neg (by omega),aA.aG,aA.aW,if_neg (by omega),aA.aC,if_neg (by omega)]
 clear hH4 g1 g2
 have hjn:(js++[j]).Nodup:=List.nodup_append.2 ⟨j1,by simp,fun a ha b hb=>by
  simp only[Am,Bj,Df] at hb;rintro rfl
  exact hjs (hb▸ha)⟩
 have hjb:∀x∈js++[j],x<F.length:=fun x hx=>by
  rcases Ao.1 hx with h|h
  . exact j2 x h
  simp only[Am,Bj,Df] at h;omega
 have hje:¬(js++[j]=[]):=by simp
 have hFl:F.length<=2^20:=by have h1:=BQ hF.nd hF.is;have h2:l.length*(l.length*(l.length*2))<=64*(64*(64*2)):=Bt hlen (Bt hlen (Bt hlen (Ab _)));omega
 rcases rB with ⟨rfl,hv⟩|⟨xC,cQ,hv,gr,hr1,hr2,hr3⟩
 . simp only[zM] at hv;have ha:=zH (H:=H4) (sz:=4) (bytes:=32) (ys:=[lF q]) rfl (by simp only[As,Bm];omega);simp only[↓zP,zJ,seval,hv,k1,oL p4];rw[show cK H4 4 (.bD 1 4 [lF q])=some [lF q] from rfl];simp only[ha,cE];refine⟨m -1,?_,[]++[j],hjn,hjb,?_,?_,?_,?_,.inr ⟨H4.next,hje,rfl,?_,?_,?_,?_⟩⟩
   . simp only[Bm] at *;omega
   . simp only[Bm] at *;omega
   . rw[aA.aG,if_neg (by omega),k2]
   . rw[aA.aG,if_neg (by omega),k3]
   . exact Zaf
   . rw[aA.aG,if_pos rfl];simp only[Cb,Fo,Db,hq]
   . exact Zaf
   . omega
   omega
 simp only[zM] at hv;have gr4:=(k5 xC (fun h=>hr3 h.symm) hr1).trans gr
 have xd:((js.map fun j=>lF (F.getD j (V0,0))).flatten).length=js.length*4:=by rw[oQ (sz:=4) (fun e he=>?_),Af];obtain⟨x,_,rfl⟩:=Bf.1 he;rfl
 have ha:=zK (H:=H4) (sz:=4) (bytes:=32) (ys:=[lF q]) gr4 xd rfl (by simp only[As,Bm];omega) (by decide);simp only[↓zP,zJ,seval,hv,k1,oL p4];rw[show cK H4 4 (.bD 1 4 [lF q])=some [lF q] from rfl];simp only[ha,cE];refine⟨m -1,?_,js++[j],hjn,hjb,?_,?_,?_,?_,.inr ⟨H4.next,hje,?_,?_,?_,?_,?_⟩⟩
 . omega
 . omega
 . rw[aA.aG,aA.aW,if_neg (by omega),aA.aC,if_neg (by omega),k2]
 . rw[aA.aG,aA.aW,if_neg (by omega),aA.aC,if_neg (by omega),k3]
 . simp only[aA.aR,aA.aW];omega
 . rw[MP];rfl
 . rw[aA.aG,aA.aW,if_pos rfl];simp only[Ct,Cb,Fo,Fm,hq]
 . simp only[aA.aR,aA.aW];omega
 . omega
 omega
end Go.Proofs.YtgggiembljfnhaaGreatDoor
