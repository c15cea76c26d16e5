/-
  Part of the proof of statement 14
-/
import Derived.Test.YtgggiembljfnhaaGreatDoorC17
import Derived.Test.YtgggiembljfnhaaGreatDoorC20
import Derived.Test.YtgggiembljfnhaaGreatDoorC07
import Derived.Test.YtgggiembljfnhaaGreatDoorC06
import Derived.Test.YtgggiembljfnhaaGreatDoorProg
import Derived.Shelf.SlSortCmp.NoneTotal
import Derived.Ground.SlsfProg
set_option linter.unusedVariables false
set_option linter.unusedSimpArgs false
set_option maxRecDepth 100000
set_option maxHeartbeats 16000000
namespace Go.Proofs
open Go.Shelf
def Tryz.WV:Go.Shelf.Ren:=⟨fun |6=>208|15=>277|14=>276|28=>256|29=>323|20=>315|21=>316|22=>317|23=>318|24=>319|25=>320|26=>321|27=>322|46=>353|47=>354|48=>355|49=>356|50=>357|57=>378|n=>n,fun |22=>228|24=>231|25=>279|3=>3|39=>181|0=>0|53=>84|55=>180|4=>4|46=>368|45=>367|50=>268|5=>5|9=>9|66=>385|70=>389|76=>402|77=>403|n=>n,fun |n=>n⟩
theorem Tryz.ZZ:Go.Proofs.SlLaysF0.n6 Tryz.prog Tryz.WV:={
 mixed:=by kernel_rfl
 f6:=⟨Tryz.f208.name,by decide,Tryz.func208.trans (Bt some (by kernel_rfl))⟩
 f14:=⟨Tryz.f276.name,by decide,Tryz.func276.trans (Bt some (by kernel_rfl))⟩
 f15:=Tryz.func277.trans (Bt some (by kernel_rfl))
 f20:=⟨Tryz.f315.name,by decide,Tryz.func315.trans (Bt some (by kernel_rfl))⟩
 f21:=⟨Tryz.f316.name,by decide,Tryz.func316.trans (Bt some (by kernel_rfl))⟩
 f22:=⟨Tryz.f317.name,by decide,Tryz.func317.trans (Bt some (by kernel_rfl))⟩
 f23:=⟨Tryz.f318.name,by decide,Tryz.func318.trans (Bt some (by kernel_rfl))⟩
 f24:=⟨Tryz.f319.name,by decide,Tryz.func319.trans (Bt some (by kernel_rfl))⟩
 f25:=⟨Tryz.f320.name,by decide,Tryz.func320.trans (Bt some (by kernel_rfl))⟩
 f26:=⟨Tryz.f321.name,by decide,Tryz.func321.trans (Bt some (by kernel_rfl))⟩
 f27:=⟨Tryz.f322.name,by decide,Tryz.func322.trans (Bt some (by kernel_rfl))⟩
 f28:=Tryz.func256.trans (Bt some (by kernel_rfl))
 f29:=Tryz.func323.trans (Bt some (by kernel_rfl))
 f46:=⟨Tryz.f353.name,by decide,Tryz.func353.trans (Bt some (by kernel_rfl))⟩
 f47:=Tryz.func354.trans (Bt some (by kernel_rfl))
 f48:=Tryz.func355.trans (Bt some (by kernel_rfl))
 f49:=⟨Tryz.f356.name,by decide,Tryz.func356.trans (Bt some (by kernel_rfl))⟩
 f50:=⟨Tryz.f357.name,by decide,Tryz.func357.trans (Bt some (by kernel_rfl))⟩
 f57:=⟨Tryz.f378.name,by decide,Tryz.func378.trans (Bt some (by kernel_rfl))⟩
 t0:=Tryz.underlying0
 a0:=Tryz.isAgg0
 z0:=Tryz.sizeOf0
 v0:=Tryz.zeroValue0
 t3:=Tryz.underlying3
 a3:=Tryz.isAgg3
 z3:=Tryz.sizeOf3
 v3:=Tryz.zeroValue3
 t4:=Tryz.underlying4
 a4:=Tryz.isAgg4
 z4:=Tryz.sizeOf4
 v4:=Tryz.zeroValue4
 t5:=Tryz.underlying5
 a5:=Tryz.isAgg5
 z5:=Tryz.sizeOf5
 v5:=Tryz.zeroValue5
 t9:=Tryz.underlying9
 a9:=Tryz.isAgg9
 z9:=Tryz.sizeOf9
 v9:=Tryz.zeroValue9
 t22:=Tryz.underlying228
 a22:=Tryz.isAgg228
 z22:=Tryz.sizeOf228
 v22:=Tryz.zeroValue228
 t25:=Tryz.underlying279
 a25:=Tryz.isAgg279
 z25:=Tryz.sizeOf279
 v25:=Tryz.zeroValue279
 t39:=Tryz.underlying181
 a39:=Tryz.isAgg181
 z39:=Tryz.sizeOf181
 v39:=Tryz.zeroValue181
 t45:=Tryz.underlying367
 a45:=Tryz.isAgg367
 z45:=Tryz.sizeOf367
 v45:=Tryz.zeroValue367
 t46:=Tryz.underlying368
 a46:=Tryz.isAgg368
 z46:=Tryz.sizeOf368
 v46:=Tryz.zeroValue368
 t50:=Tryz.underlying268
 a50:=Tryz.isAgg268
 z50:=Tryz.sizeOf268
 v50:=Tryz.zeroValue268
 t53:=Tryz.underlying84
 a53:=Tryz.isAgg84
 z53:=Tryz.sizeOf84
 v53:=Tryz.zeroValue84
 t55:=Tryz.underlying180
 a55:=Tryz.isAgg180
 z55:=Tryz.sizeOf180
 v55:=Tryz.zeroValue180
 t66:=Tryz.underlying385
 a66:=Tryz.isAgg385
 z66:=Tryz.sizeOf385
 v66:=Tryz.zeroValue385
 t70:=Tryz.underlying389
 a70:=Tryz.isAgg389
 z70:=Tryz.sizeOf389
 v70:=Tryz.zeroValue389
 t76:=Tryz.underlying402
 a76:=Tryz.isAgg402
 z76:=Tryz.sizeOf402
 v76:=Tryz.zeroValue402
 t77:=Tryz.underlying403
 a77:=Tryz.isAgg403
 z77:=Tryz.sizeOf403
 v77:=Tryz.zeroValue403}
def Tryz.WW:Go.Shelf.Ren:=⟨fun |6=>271|15=>277|14=>314|28=>256|29=>323|20=>345|21=>346|22=>347|23=>348|24=>349|25=>350|26=>351|27=>352|46=>375|47=>354|48=>355|49=>376|50=>377|57=>384|n=>n,fun |22=>30|24=>60|25=>274|3=>3|39=>181|0=>0|53=>84|55=>180|4=>4|46=>368|45=>367|50=>268|5=>5|9=>9|66=>385|70=>389|76=>402|77=>403|n=>n,fun |n=>n⟩
theorem Tryz.Zb:Go.Proofs.SlLaysF0.n6 Tryz.prog Tryz.WW:={
 mixed:=by kernel_rfl
 f6:=⟨Tryz.f271.name,by decide,Tryz.func271.trans (Bt some (by kernel_rfl))⟩
 f14:=⟨Tryz.f314.name,by decide,Tryz.func314.trans (Bt some (by kernel_rfl))⟩
 f15:=Tryz.func277.trans (Bt some (by kernel_rfl))
 f20:=⟨Tryz.f345.name,by decide,Tryz.func345.trans (Bt some (by kernel_rfl))⟩
 f21:=⟨Tryz.f346.name,by decide,Tryz.func346.trans (Bt some (by kernel_rfl))⟩
 f22:=⟨Tryz.f347.name,by decide,Tryz.func347.trans (Bt some (by kernel_rfl))⟩
 f23:=⟨Tryz.f348.name,by decide,Tryz.func348.trans (Bt some (by kernel_rfl))⟩
 f24:=⟨Tryz.f349.name,by decide,Tryz.func349.trans (Bt some (by kernel_rfl))⟩
 f25:=⟨Tryz.f350.name,by decide,Tryz.func350.trans (Bt some (by kernel_rfl))⟩
 f26:=⟨Tryz.f351.name,by decide,Tryz.func351.trans (Bt some (by kernel_rfl))⟩
 f27:=⟨Tryz.f352.name,by decide,Tryz.func352.trans (Bt some (by kernel_rfl))⟩
 f28:=Tryz.func256.trans (Bt some (by kernel_rfl))
 f29:=Tryz.func323.trans (Bt some (by kernel_rfl))
 f46:=⟨Tryz.f375.name,by decide,Tryz.func375.trans (Bt some (by kernel_rfl))⟩
 f47:=Tryz.func354.trans (Bt some (by kernel_rfl))
 f48:=Tryz.func355.trans (Bt some (by kernel_rfl))
 f49:=⟨Tryz.f376.name,by decide,Tryz.func376.trans (Bt some (by kernel_rfl))⟩
 f50:=⟨Tryz.f377.name,by decide,Tryz.func377.trans (Bt some (by kernel_rfl))⟩
 f57:=⟨Tryz.f384.name,by decide,Tryz.func384.trans (Bt some (by kernel_rfl))⟩
 t0:=Tryz.underlying0
 a0:=Tryz.isAgg0
 z0:=Tryz.sizeOf0
 v0:=Tryz.zeroValue0
 t3:=Tryz.underlying3
 a3:=Tryz.isAgg3
 z3:=Tryz.sizeOf3
 v3:=Tryz.zeroValue3
 t4:=Tryz.underlying4
 a4:=Tryz.isAgg4
 z4:=Tryz.sizeOf4
 v4:=Tryz.zeroValue4
 t5:=Tryz.underlying5
 a5:=Tryz.isAgg5
 z5:=Tryz.sizeOf5
 v5:=Tryz.zeroValue5
 t9:=Tryz.underlying9
 a9:=Tryz.isAgg9
 z9:=Tryz.sizeOf9
 v9:=Tryz.zeroValue9
 t22:=Tryz.underlying30
 a22:=Tryz.isAgg30
 z22:=Tryz.sizeOf30
 v22:=Tryz.zeroValue30
 t25:=Tryz.underlying274
 a25:=Tryz.isAgg274
 z25:=Tryz.sizeOf274
 v25:=Tryz.zeroValue274
 t39:=Tryz.underlying181
 a39:=Tryz.isAgg181
 z39:=Tryz.sizeOf181
 v39:=Tryz.zeroValue181
 t45:=Tryz.underlying367
 a45:=Tryz.isAgg367
 z45:=Tryz.sizeOf367
 v45:=Tryz.zeroValue367
 t46:=Tryz.underlying368
 a46:=Tryz.isAgg368
 z46:=Tryz.sizeOf368
 v46:=Tryz.zeroValue368
 t50:=Tryz.underlying268
 a50:=Tryz.isAgg268
 z50:=Tryz.sizeOf268
 v50:=Tryz.zeroValue268
 t53:=Tryz.underlying84
 a53:=Tryz.isAgg84
 z53:=Tryz.sizeOf84
 v53:=Tryz.zeroValue84
 t55:=Tryz.underlying180
 a55:=Tryz.isAgg180
 z55:=Tryz.sizeOf180
 v55:=Tryz.zeroValue180
 t66:=Tryz.underlying385
 a66:=Tryz.isAgg385
 z66:=Tryz.sizeOf385
 v66:=Tryz.zeroValue385
 t70:=Tryz.underlying389
 a70:=Tryz.isAgg389
 z70:=Tryz.sizeOf389
 v70:=Tryz.zeroValue389
 t76:=Tryz.underlying402
 a76:=Tryz.isAgg402
 z76:=Tryz.sizeOf402
 v76:=Tryz.zeroValue402
 t77:=Tryz.underlying403
 a77:=Tryz.isAgg403
 z77:=Tryz.sizeOf403
 v77:=Tryz.zeroValue403}
end Go.Proofs
namespace Go.Proofs.YtgggiembljfnhaaGreatDoor
open Go Go.Av Go.aY
attribute [local congr] aP aJ aK aH aU aM aL aD
attribute [local irreducible] FC bM dX
theorem wH (p q:aY.V×Int):QO p q<0↔kO p.1 q.1:=by
 unfold QO orZ vF kO
 rcases Fe p.1.x q.1.x with h|h|h
 . simp[h]
 . rcases Fe p.1.y q.1.y with h2|h2|h2
   . simp[h,h2]
   . rcases Fe p.1.z q.1.z with h3|h3|h3
     . simp[h,h2,h3]
     . simp[h,h2,h3]
     simp[h,h2,h3,Int.lt_asymm h3]
   simp[h,h2,Int.lt_asymm h2,Int.ne_of_gt h2]
 simp[h,Int.lt_asymm h,Int.ne_of_gt h]
def k8 (q:aY.V×Int):DE 4:=⟨[q.1.x,q.1.y,q.1.z,q.2],rfl⟩
def Wy (x:DE 4):aY.V×Int:=(⟨x.1.getD 0 0,x.1.getD 1 0,x.1.getD 2 0⟩,x.1.getD 3 0)
theorem mi (q:aY.V×Int):Wy (k8 q)=q:=rfl
theorem Nx (x:DE 4):k8 (Wy x)=x:=by
 obtain⟨l,hl⟩:=x
 match l,hl with
 |[a,b,c,d],_=>rfl
theorem PM (q:aY.V×Int):Rm (k8 q)=iV q:=rfl
theorem Kh:∀S:List (aY.V×Int),(nA (S.map k8)).map (AV.int .i64)=(S.map iV).flatten
 |[]=>rfl
 |q::S=>by have :=Kh S;simp only[nA,Be,Cq,Dx,Bo] at this ⊢;rw[this];rfl
theorem aJf:Go.Sort.SWO (Go.Proofs.ltOf fun x y:DE 4=>QO (Wy x) (Wy y)) where
 irrefl x:=by simp only[Go.Proofs.ltOf,wH,Co];exact kO.irr _
 trans x y z h1 h2:=by simp only[Go.Proofs.ltOf,wH,Bj] at *;exact kO.trans h1 h2
 ntrans x y z h1 h2:=by simp only[Go.Proofs.ltOf,wH,Co] at *;unfold kO at *;omega
def qT (K:List (aY.V×Int)):List (AV×AV):=K.map fun q=>(.agg (iV q),.bool true)
theorem VW (p q:aY.V×Int):cE [.i,.i,.i,.i] (iV p) (iV q)=some (decide (p=q)):=by obtain⟨⟨a,b,c⟩,d⟩:=p;obtain⟨⟨a',b',c'⟩,d'⟩:=q;simp only[iV,cE,if_true,Bi,Ad,V.mk.injEq,Gj];congr 1;rw[Gk];simp[and_assoc]
theorem Vs {bs:List Nat} (h:bs.Nodup) {i j:Nat} (hi:i<bs.length) (hj:j<bs.length) (e:bs.getD i 0=bs.getD j 0):i=j:=by
 simp only[List.getD,Ac hi,Ac hj,Bb] at e;have hp:=Ez.1 h
 rcases Ic i j with h1|h1|h1
 . exact absurd e (hp i j hi hj h1)
 . exact h1
 exact absurd e.symm (hp j i hj hi h1)
theorem Tg (q:aY.V×Int):∀(K:List (aY.V×Int)) (n:Nat),(q∈K->∃i,jP (.f [.i,.i,.i,.i]) (.agg (iV q)) (qT K) n=some (some (i,.bool true)))/\(q∉K->jP (.f [.i,.i,.i,.i]) (.agg (iV q)) (qT K) n=some none)
 |[],n=>⟨fun h=>(nomatch h),fun _=>rfl⟩
 |x::K,n=>by
  obtain⟨h1,h2⟩:=Tg q K (n+1);simp only[qT,Be,jP,sameKey,VW] at h1 h2 ⊢;by_cases e:q=x
  . subst e;simp
  simp only[e,Il,Ah,false_or];exact⟨h1,h2⟩
theorem Xo (v:aY.V):cE [.i,.i,.i] (iB v) [.int .i64 0,.int .i64 0,.int .i64 0]=some (decide (v=V0)):=by obtain⟨a,b,c⟩:=v;simp only[iB,cE,if_true,Bi,V0,V.mk.injEq,Gj];congr 1;rw[Gk];simp
theorem KW {l:List aY.V} {q:aY.V×Int}:QL l q=true↔(∀k,k<l.length->aY.dot q.1 (l.getD k V0)<=q.2)/\∃k,k<l.length/\aY.dot q.1 (l.getD k V0)<q.2:=by
 have hg:∀k (h:k<l.length),l.getD k V0=l[k]:=fun k h=>by simp[List.getD,h]
 simp only[QL,Aj,Bc,Bj,Cr,<-Ik,Dr];constructor
 . rintro⟨h1,h2⟩;refine⟨fun k hk=>by rw[hg k hk];exact h1 _ (Ap hk),?_⟩;refine Ct fun hc=>h2 fun v hv=>?_;obtain⟨k,hk,rfl⟩:=Ff hv;have a1:=h1 _ (Ap hk);have a2:¬aY.dot q.1 l[k]<q.2:=fun hh=>hc ⟨k,hk,by rw[hg k hk];exact hh⟩;omega
 rintro⟨h1,k,hk,h2⟩;refine⟨fun v hv=>?_,fun h=>?_⟩
 . obtain⟨k,hk,rfl⟩:=Ff hv;have :=h1 k hk
   rwa [hg k hk] at this
 have :=h _ (Ap hk);rw[hg k hk] at h2;omega
structure Found (l:List aY.V) (i j k:Nat) (K:List (aY.V×Int)) (H:aA):Prop where
 nd:K.Nodup
 is:∀q∈K,uN (fun i=>l.getD i V0) l.length q.1 q.2
 tr:pG (fun i=>l.getD i V0) l.length i j k K
 mp:H.get 0=some (.map (qT K))
 nx:1<=H.next
 fr:eN H
theorem Found.heap {l:List aY.V} {i j k:Nat} {K:List (aY.V×Int)} {H H':aA} (h:Found l i j k K H) (h0:H'.get 0=H.get 0) (hn:H.next<=H'.next) (hf:eN H'):Found l i j k K H':=
 ⟨h.nd,h.is,h.tr,h0.trans h.mp,By h.nx hn,hf⟩
theorem Found.to {l:List aY.V} {i j k i' j' k':Nat} {K:List (aY.V×Int)} {H:aA} (h:Found l i j k K H) (ht:pG (fun i=>l.getD i V0) l.length i' j' k' K):Found l i' j' k' K H:=⟨h.nd,h.is,ht,h.mp,h.nx,h.fr⟩
theorem Ns:IN Tryz.prog 208:=⟨_,Tryz.func208,by kernel_rfl,by kernel_rfl⟩
theorem Za (d:List (DE 4)) (hd:d.length<4611686018427387904):
 ∃d':List (DE 4),d'.Perm d/\(d'.Pairwise fun a b=>¬QO (Wy b) (Wy a)<0)/\∀(H:aA) (id:Nat) (dH:Bool),H.get id=some (.cells ((nA d).map (AV.int .i64)) dH)->
  Sound Tryz.prog gv 208 [.sl id 4 0 d.length d.length,.func (.func 209) [] []] H (.ret (.eZ [])) (H.set id (.cells ((nA d').map (AV.int .i64)) dH)):=
 IV (fun _=>rfl) Tryz.ZZ (by decide) Tryz.isAgg231 Tryz.sizeOf231 rfl Ns (QP (V0,0) (V0,0) ⟨0,.nil⟩).1 aJf (fun x y=>by
  have :=QP (Wy x) (Wy y) ⟨0,.nil⟩
  rwa [<-PM,<-PM,Nx,Nx] at this) d hd
theorem Ma {tag:Nat} (ht:Nat.blt tag 2=true) {l:List aY.V} {M:Nat} (hl:∀v∈l,fI M v) (hM:M<=2^18) (hlen:l.length<=64) {S:List (aY.V×Int)} (hS:pE (fun i=>l.getD i V0) l.length S) (H:aA):
 Sound Tryz.prog gv 155 [.bH tag 3 (gL l)] H (.ret (uR 4 (S.map iV))) H:=by
 refine fV fit dZ rn (Ae rfl) (by simp only[sf,kU ht]) ?_ H;unfold cj;dsimp only;have cJ:∀k (h:k<l.length),l.getD k V0=l[k]:=fun k h=>by simp[List.getD,h]
 refine aB fun K hK=>?_;simp only[↓zP,zG,seval];apply hK;clear hK K;refine aB fun K hK=>?_;simp only[↓zP,zG,seval,zI];apply hK;clear hK K;refine aB fun K hK=>?_;refine aB fun K2 bO=>?_;simp only[↓zP,zG,seval,zI];apply bO;clear bO K2;refine bV [] (fun i _ H=>∃K,Found l i 0 0 K H) l.length (by omega) (by decide) ?_ ?_ ?_ ?_ ?_
 . simp only[zB,seval]
 . simp only[zB,seval,bY]
 . refine⟨[],List.nodup_nil,fun q hq=>(nomatch hq),pG.zero,?_,Ai _,(eN.nil 0).alloc _⟩;rfl
 . rintro i f H hi hk e1 ⟨F,hF⟩;refine aS ?_;refine aB fun K2 bO=>?_;simp only[↓zP,zG,seval,e1];apply bO;clear bO K2;refine aB fun K2 bO=>?_;simp only[↓zP,zG,seval];apply bO;clear bO K2;refine bV [] (fun j _ H=>∃K,Found l i j 0 K H) i (by omega) (by decide) ?_ ?_ ?_ ?_ ?_
   . simp only[zB,seval]
   . simp only[zB,seval]
   . exact⟨F,hF⟩
   . clear hF F;rintro j f2 H2 hj kP e2 ⟨F,hF⟩;refine aS ?_;refine aB fun K2 bO=>?_;simp only[↓zP,zG,seval,e2];apply bO;clear bO K2;refine aB fun K2 bO=>?_;simp only[↓zP,zG,seval];apply bO;clear bO K2;refine bV [] (fun k _ H=>∃K,Found l i j k K H) j (by omega) (by decide) ?_ ?_ ?_ ?_ ?_
     . simp only[zB,seval]
     . simp only[zB,seval]
     . exact⟨F,hF⟩
     . clear hF F;rintro k f3 H3 hkk LV e3 ⟨F,hF⟩;have RA:j<l.length:=(by omega);have Pc:k<l.length:=(by omega);have gi:=hU hi;have gj:=hU RA;have gk:=hU Pc;have ni:=hl _ (Ap hi);have nj:=hl _ (Ap RA);have nk:=hl _ (Ap Pc)
       have BS:DA l[i] l[j] l[k]=fD (fun i=>l.getD i V0) i j k:=by simp only[DA,fD,vec,cJ i hi,cJ j RA,cJ k Pc]
       refine aS ?_;refine aB fun K2 bO=>?_;simp only[↓zP,zG,seval,e3];apply bO;clear bO K2;refine aB fun K2 bO=>?_;refine II 1 (by decide) hF.fr.at1 fun H1 n1 e1'=>?_;have cF:¬(0=H3.next):=(by have :=hF.nx;omega);simp only[↓zP,zG,seval,zD,reduceCtorEq,zI,LV 0 rfl,LV 4 rfl,LV 5 rfl,kP 0 rfl,kP 4 rfl,hk 0 rfl,aQ,bY,hi,RA,Pc,gi,gj,gk,oL (bR l[i]),oL (bR l[j]),oL (bR l[k])];refine rM (TF ni nj nk hM _) ?_;rw[BS]
       have hq0:fI (2*((M+M)*(M+M))) (fD (fun i=>l.getD i V0) i j k).1:=by rw[<-BS];exact xG (tH (kZ nj ni) (kZ nk ni))
       have hT2:(fD (fun i=>l.getD i V0) i j k).2.natAbs<=3*(2*((M+M)*(M+M))*M):=by rw[<-BS];exact Xh (xG (tH (kZ nj ni) (kZ nk ni))) ni
       have hcd:∀q∈gP (fun i=>l.getD i V0) i j k,QL l q=true->uN (fun i=>l.getD i V0) l.length q.1 q.2:=fun q hq ho=>BV hi RA Pc hq (KW.1 ho).1 (KW.1 ho).2;have hMM:(M+M)*(M+M)<=2^19*2^19:=Ch (by omega) (by omega);have aDh:2*((M+M)*(M+M))*M<=2^39*2^18:=Ch (by omega) (by omega);have hB0:2*((M+M)*(M+M))<=2^39:=by omega
       have Jk:gP (fun i=>l.getD i V0) i j k=if(fD (fun i=>l.getD i V0) i j k).1=V0 then [] else [fD (fun i=>l.getD i V0) i j k,(aY.neg (fD (fun i=>l.getD i V0) i j k).1,-(fD (fun i=>l.getD i V0) i j k).2)]:=rfl
       generalize fD (fun i=>l.getD i V0) i j k=T at *;generalize hBB:2*((M+M)*(M+M))=B at *;have p4:(iV T).length=4:=rfl;have p3:(iV T).take 3=iB T.1:=rfl;have p1:(iV T).getD 3 aC=.int .i64 T.2:=rfl;simp only[↓zP,zG,seval,zD,zI,n1,oL p4];apply bO;clear bO K2;generalize hX:(H1.set H3.next _).set H3.next _=H4;have fr1:eN H1:=fun j hj=>by rw[e1'];exact hF.fr j (by omega)
       have hF4:Found l i j k F H4:=hF.heap (by subst hX;rw[aA.aI,if_neg cF,aA.aI,if_neg cF,e1']) (by subst hX;simp only[aA.bD];omega)
        (by subst hX;exact(fr1.set (by omega) _).set (by simp only[aA.bD];omega) _)
       have g7:H4.get H3.next=some (.cells (iV T) false):=(by subst hX;simp only[seval,zI]);have YS:H3.next<H4.next:=(by subst hX;simp only[aA.bD];omega);clear hX e1' n1 fr1;clear hF;generalize H3.next=r at *;refine aB fun K2 bO=>?_;simp only[↓zP,zG,seval,zI,g7,oL p4,p3,Xo];refine⟨fun hz=>?_,fun hz=>?_⟩
       . refine⟨F,hF4.to (hF4.tr.step (fun q h=>h) fun q hq=>?_)⟩;rw[Jk,if_pos hz] at hq;cases hq
       apply bO;clear bO K2;rw[if_neg hz] at Jk;have wn:IntKind.i64.wrap (0 -T.2)= -T.2:=(kG (B:=3*(B*M)) (by omega) (by omega)).trans (by omega);have YQ:[AV.int .i64 (aY.neg T.1).x,.int .i64 (aY.neg T.1).y,.int .i64 (aY.neg T.1).z,.int .i64 (-T.2)]=iV (aY.neg T.1,-T.2):=rfl;refine aB fun K2 bO=>?_;refine bK (by decide) ?_;simp only[↓zP,zG,seval,zD,reduceCtorEq,zI,g7,oL p4,p3];refine rM (UZ hq0 (by omega) _) ?_;simp only[↓zP,zG,seval,zD,reduceCtorEq,zI,g7,oL p4,p1,wn,iB,YQ,show(iV (aY.neg T.1,-T.2)).length=4 from rfl];apply bO;clear bO K2
       have aw:∀q∈gP (fun i=>l.getD i V0) i j k,fI B q.1:=fun q hq=>by
        rw[Jk] at hq;simp only[Ah,Al,Bx] at hq
        rcases hq with rfl|rfl
        . exact hq0
        exact KL hq0
       have Pf:[iV T,iV (aY.neg T.1,-T.2)]=(gP (fun i=>l.getD i V0) i j k).map iV:=(by rw[Jk];rfl);rw[Pf];have Pb:(gP (fun i=>l.getD i V0) i j k).length=2:=(by rw[Jk];rfl);generalize FW:gP (fun i=>l.getD i V0) i j k=cs at *;refine bV [] (fun s _ H=>∃K,Found l i j k K H/\∀q∈cs.take s,uN (fun i=>l.getD i V0) l.length q.1 q.2->q∈K) 2 (by decide) (by decide) ?_ ?_ ?_ ?_ ?_
       . simp only[zB,seval]
       . simp only[zB,seval]
       . exact⟨F,hF4,fun q hq=>(by simp at hq)⟩
       . clear hF4 F g7 YS H4;rintro s f4 H4 hs hk4 e4 ⟨F,hF,Ph⟩;have FX:s<cs.length:=(by omega);have hcg:(cs.map iV).getD s []=iV cs[s]:=sP FX;have hqm:=Ap FX;have aAy:(iV cs[s]).length=4:=rfl;have xT:=hF.nx;have cF:¬(0=H4.next):=(by omega);have oV:=Sj ht hl (by omega) (aw _ hqm) (by omega)
         have aAp:∀q,q∈cs.take (s+1)->q∈cs.take s\/q=cs[s]:=fun q hq=>by
          rw[Bv,Az] at hq
          rcases hq with h|h
          . exact .inl h
          simp[FX] at h;exact .inr h
         have aKh:=hcd _ hqm;generalize cs[s]=q at *;have Tq:=Tg q F 0;have hmp:=hF.mp;have hFa:∀H5:aA,H5.get 0=H4.get 0->H5.next=H4.next+1->eN H5->Found l i j k F H5:=fun H5 h1 h2 h3=>hF.heap h1 (by omega) h3;refine aS ?_;by_cases gU:q∈F
         . obtain⟨ix,gd⟩:=Tq.1 gU;simp only[↓zP,zG,seval,zI,e4,hk4 51 rfl,hk4 3 rfl,LV 3 rfl,kP 3 rfl,hk 3 rfl,aQ,Ax,FX,hcg,oL aAy,cF,Jy,Gn,hmp,gd];refine⟨F,hFa _ ?_ ?_ ?_,fun x hx Vm=>?_⟩
           . rw[aA.aI,if_neg cF,aA.aG,if_neg cF]
           . simp only[aA.bD,aA.aR]
           . exact(hF.fr.alloc _).set (by simp) _
           rcases aAp x hx with h|rfl
           . exact Ph x h Vm
           exact gU
         have gd:=Tq.2 gU;simp only[↓zP,zG,seval,zI,e4,hk4 51 rfl,hk4 3 rfl,hk4 0 rfl,LV 3 rfl,LV 0 rfl,kP 3 rfl,kP 0 rfl,hk 3 rfl,hk 0 rfl,aQ,Ax,FX,hcg,oL aAy,cF,Jy,Gn,hmp,gd];refine cT (oV _) ?_
         cases hb:QL l q with
         |false=>
          simp only[↓zP,zG,seval];refine⟨F,hFa _ ?_ ?_ ?_,fun x hx Vm=>?_⟩
          . rw[aA.aI,if_neg cF,aA.aG,if_neg cF]
          . simp only[aA.bD,aA.aR]
          . exact(hF.fr.alloc _).set (by simp) _
          rcases aAp x hx with h|rfl
          . exact Ph x h Vm
          rw[KW.2 ⟨Vm.le,Vm.lt⟩] at hb;cases hb
         |true=>
          simp only[↓zP,zG,seval,zI,hk4 3 rfl,LV 3 rfl,kP 3 rfl,hk 3 rfl,cF,oL aAy,Gn,hmp,gd];have hks:qT (F++[q])=qT F++[(AV.agg (iV q),AV.bool true)]:=(by simp[qT]);refine⟨F++[q],⟨?_,fun x hx=>?_,fun a b c h1 h2 h3 h4 x hx Vm=>List.mem_append_left _ (hF.tr a b c h1 h2 h3 h4 x hx Vm),?_,?_,?_⟩,fun x hx Vm=>?_⟩
          . rw[List.nodup_append];refine⟨hF.nd,by simp,fun a ha b vR=>?_⟩;simp only[Ah,Al,Bx] at vR;subst vR;rintro rfl;exact gU ha
          . rcases Az.1 hx with h|h
            . exact hF.is x h
            simp only[Ah,Al,Bx] at h;subst h;exact aKh hb
          . rw[hks];simp only[seval,zI]
          . simp only[aA.bD,aA.aR];omega
          . exact((hF.fr.alloc _).set (by simp) _).set (by simp only[aA.bD,aA.aR];omega) _
          rcases aAp x hx with h|rfl
          . exact List.mem_append_left _ (Ph x h Vm)
          exact List.mem_append_right _ (by simp)
       rintro f4 H4 hk4 ⟨F,hF,Ph⟩;simp only[↓zP,seval];refine⟨F,hF.to (hF.tr.step (fun q h=>h) fun q hq hF'=>Ph q ?_ hF')⟩;rw[Bl (by omega),<-FW];exact hq
     rintro f3 H3 LV ⟨F,hF⟩;simp only[↓zP,seval];exact⟨F,hF.to hF.tr.down⟩
   rintro f2 H2 kP ⟨F,hF⟩;simp only[↓zP,seval];exact⟨F,hF.to hF.tr.next⟩
 rintro f H hk ⟨F,hF⟩;simp only[↓zP,seval];apply hK;clear hK K;have hFm:=hF.tr.all hF.is;have xT:=hF.nx;have hmp:=hF.mp;refine aB fun K hK=>?_;simp only[↓zP,zG,seval];apply hK;clear hK K;refine aB fun K hK=>?_;refine aB fun K2 bO=>?_;simp only[↓zP,zG,seval,hk 3 rfl];refine FE (by decide) (by simp only[↓zP,seval]) hmp fun bs c mb To hbn=>?_;simp only[↓zP,seval];apply bO;clear bO K2;have hlF:(qT F).length=F.length:=by simp[qT]
 rw[hlF] at To;generalize hit:H.next=it at *;have aOs:¬(0=it):=by omega
 refine aS ?_
 refine jI [10] (fun m vs H'=>∃js:List Nat,js.Nodup/\(∀j∈js,j<F.length)/\m+js.length=F.length/\H'.get it=some (.iter 0 mb c (js.map fun j=>bs.getD j 0))/\H'.get 0=some (.pQ (qT F) bs c mb)/\it<H'.next/\
  ((js=[]/\vs=[.aF])\/∃tC,js≠[]/\vs=[.sl tC 4 0 js.length js.length]/\H'.get tC=some (.cells (js.map fun j=>iV (F.getD j (V0,0))).flatten true)/\tC<H'.next/\¬(0=tC)/\¬(it=tC))) F.length (by rfl) ?_ ?_
 . refine⟨[],List.nodup_nil,fun j hj=>(nomatch hj),rfl,?_,?_,?_,.inl ⟨rfl,?_⟩⟩
   . simp only[seval,zI,hit]
   . simp only[seval,zI,hit];rw[if_neg (by omega)]
   . simp only[seval,zI,hit]
     try omega
   simp only[sm,zB,seval]
 rintro m f2 H2 kP ⟨js,j1,j2,j3,gi,g0,eW,tQ⟩
 have Pe:∀j,j<F.length->bs.getD j 0∈(js.map fun j=>bs.getD j 0)->j∈js:=fun j hj hm=>by obtain⟨x,x1,x2⟩:=Bq.1 hm;have hx:=j2 x x1;rw[<-Vs hbn (by omega) (by omega) x2];exact x1
 refine aB fun K2 bO=>?_;simp only[↓zP,zG,seval];refine IM (by decide) (by simp only[↓zP,seval,kP 73 rfl]) gi g0 (fun nQ=>?_) fun j hj hnj=>?_
 . simp only[↓zP,zG,seval];apply bO;clear bO K2;simp only[↓zP,zG,seval];apply hK;clear hK K
   have hp0:(js.map fun j=>F.getD j (V0,0)).Perm F:=by
    have h1:=(Sn j1 j2 fun j hj=>Pe j hj (nQ _ (by
     simp only[List.getD,Ac (show j<bs.length by omega),Bb]
     exact Ap _))).map fun j=>F.getD j (V0,0)
    rwa [KG] at h1
   have gg:∀S1:List (aY.V×Int),S1.Perm F->(S1.Pairwise fun a b=>¬kO b.1 a.1)->S1=S:=fun S1 h1 h2=>(pE.UM hF.nd hFm h1 h2).uniq hS
   have hFl:F.length<=2^20:=by have h1:=DY hF.nd hF.is;have h2:l.length*(l.length*(l.length*2))<=64*(64*(64*2)):=Ch hlen (Ch hlen (Ch hlen (Ai _)));omega
   rcases tQ with ⟨rfl,hv⟩|⟨tC,cF,hv,gr,hr1,hr2,hr3⟩
   . simp only[sm,Am,Bs] at hv;simp only[↓zP,zG,seval,hv];refine cT (mM Tryz.ZZ rfl Ns 209 _) ?_;simp only[↓zP,zG,seval,hv];have hS0:[]=S:=gg [] hp0 List.Pairwise.nil;refine Rx ?_;rw[<-hS0];exact⟨_,0,rfl,fun nw=>rfl⟩
   simp only[sm,Am,Bs] at hv;simp only[↓zP,zG,seval,hv];generalize hS0:(js.map fun j=>F.getD j (V0,0))=S0 at hp0;have RA:(S0.map k8).length=js.length:=(by rw[<-hS0];simp);have aOp:=hp0.length_eq;obtain⟨d',q1,q2,q3⟩:=Za (S0.map k8) (by simp only[Ax];omega)
   have pg:H2.get tC=some (.cells ((nA (S0.map k8)).map (AV.int .i64)) true):=by rw[gr,Kh,<-hS0,Ht];rfl
   have hc:=q3 H2 tC true pg;rw[RA] at hc;refine cT (hc) ?_;simp only[↓zP,zG,seval,hv];have oU:d'=(d'.map Wy).map k8:=by rw[Ht];exact(Er (g:=id) (fun x _=>Nx x)).trans (List.map_id d') |>.symm
   have hS1:d'.map Wy=S:=gg _ (by
    have h1:=q1.map Wy;rw[Ht,show(Wy∘k8)=id from funext mi,List.map_id] at h1
    exact h1.trans hp0) (by
     rw[Ie]
     exact q2.imp fun h h2=>h ((wH _ _).2 h2))
   rw[oU,hS1,Kh];refine Rx ?_;have hSl:(S.map iV).length=js.length:=(by rw[<-hS1,Ax,Ax,q1.length_eq,RA]);have hSn:¬(S.map iV=[]):=fun h=>cF (Da (by rw[<-hSl,h];rfl));refine⟨_,0,rfl,fun nw=>?_⟩;rw[<-hSl,uR,if_neg hSn];refine ZX (by rw[aA.aI,if_pos rfl]) (fun e he=>?_) (jS wG S) nw;obtain⟨q,_,rfl⟩:=Bq.1 he;rfl
 have hjF:j<F.length:=by omega
 have gy:(qT F).getD j (aC,aC)=(.agg (iV (F.getD j (V0,0))),.bool true):=by simp[qT,List.getD,hjF]
 have pq:j∉js:=fun h=>hnj (Bq.2 ⟨j,h,rfl⟩);have RA:(js++[j]).length=js.length+1:=by simp
 have hm1:js.length+1<=F.length:=by
  have :=wD (js++[j]) (List.range F.length) (List.nodup_append.2 ⟨j1,by simp,fun a ha b hb=>by
   simp only[Ah,Al,Bx] at hb;rintro rfl
   exact pq (hb▸ha)⟩) (fun x hx=>by
   rw[Bn]
   rcases Az.1 hx with h|h
   . exact j2 x h
   simp only[Ah,Al,Bx] at h
   omega)
  rwa [Cl,RA] at this
 rw[gy];simp only[↓zP,zG,seval];apply bO;clear bO K2;have g2:(H2.set it (.iter 0 mb c ((js.map fun j=>bs.getD j 0)++[bs.getD j 0]))).get 0=some (.pQ (qT F) bs c mb):=by rw[aA.aI,if_neg (by omega),g0]
 have g1:(H2.set it (.iter 0 mb c ((js.map fun j=>bs.getD j 0)++[bs.getD j 0]))).get it=some (.iter 0 mb c ((js.map fun j=>bs.getD j 0)++[bs.getD j 0])):=by rw[aA.aI,if_pos rfl]
 simp only[↓zP,zG,seval];refine aS ?_;refine aB fun K2 bO=>?_;simp only[↓zP,seval];refine Om (by decide) (by simp only[↓zP,zG,seval,kP 73 rfl]) g1 g2 hj ?_;rw[gy];have p4:(iV (F.getD j (V0,0))).length=4:=rfl;generalize hq:F.getD j (V0,0)=q at *;simp only[↓zP,zG,seval,zI,oL p4];apply bO;clear bO K2;generalize Wo:((H2.set it _).alloc _).set _ _=H4;have k1:H4.get H2.next=some (.cells (iV q) false):=by rw[<-Wo,aA.aI,if_pos rfl]
 have k2:H4.get it=some (.iter 0 mb c ((js++[j]).map fun j=>bs.getD j 0)):=by rw[<-Wo,aA.aI,if_neg (by omega),aA.aG,aA.bD,if_neg (by omega),g1,Dx];rfl
 have k3:H4.get 0=some (.pQ (qT F) bs c mb):=by rw[<-Wo,aA.aI,if_neg (by omega),aA.aG,aA.bD,if_neg (by omega),g2]
 have k4:H4.next=H2.next+1:=by rw[<-Wo];simp only[aA.bD,aA.aR]
 have k5:∀r,¬(r=it)->r<H2.next->H4.get r=H2.get r:=fun r h1 h2=>by rw[<-Wo,aA.aI,if_neg (by omega),aA.aG,aA.bD,if_neg (by omega),aA.aI,if_neg (by omega)]
 clear Wo g1 g2
 have hjn:(js++[j]).Nodup:=List.nodup_append.2 ⟨j1,by simp,fun a ha b hb=>by
  simp only[Ah,Al,Bx] at hb;rintro rfl
  exact pq (hb▸ha)⟩
 have hjb:∀x∈js++[j],x<F.length:=fun x hx=>by
  rcases Az.1 hx with h|h
  . exact j2 x h
  simp only[Ah,Al,Bx] at h;omega
 have gq:¬(js++[j]=[]):=by simp
 have hFl:F.length<=2^20:=by have h1:=DY hF.nd hF.is;have h2:l.length*(l.length*(l.length*2))<=64*(64*(64*2)):=Ch hlen (Ch hlen (Ch hlen (Ai _)));omega
 rcases tQ with ⟨rfl,hv⟩|⟨tC,cF,hv,gr,hr1,hr2,hr3⟩
 . simp only[sm,Am,Bs] at hv;have ha:=vA (H:=H4) (sz:=4) (bytes:=32) (ys:=[iV q]) rfl (by simp only[Ak,Ar];omega);simp only[↓zP,zG,seval,zI,hv,k1,oL p4];rw[show bJ H4 4 (.bH 1 4 [iV q])=some [iV q] from rfl];simp only[ha,dI];refine⟨m -1,?_,[]++[j],hjn,hjb,?_,?_,?_,?_,.inr ⟨H4.next,gq,rfl,?_,?_,?_,?_⟩⟩
   . simp only[Ar] at *;omega
   . simp only[Ar] at *;omega
   . rw[aA.aG,if_neg (by omega),k2]
   . rw[aA.aG,if_neg (by omega),k3]
   . simp only[aA.aR];omega
   . rw[aA.aG,if_pos rfl];simp only[Be,Ci,Cg,hq]
   . simp only[aA.aR];omega
   . omega
   omega
 simp only[sm,Am,Bs] at hv;have gr4:=(k5 tC (fun h=>hr3 h.symm) hr1).trans gr
 have pz:((js.map fun j=>iV (F.getD j (V0,0))).flatten).length=js.length*4:=by rw[lW (sz:=4) (fun e he=>?_),Ax];obtain⟨x,_,rfl⟩:=Bq.1 he;rfl
 have ha:=vB (H:=H4) (sz:=4) (bytes:=32) (ys:=[iV q]) gr4 pz rfl (by simp only[Ak,Ar];omega) (by decide);simp only[↓zP,zG,seval,zI,hv,k1,oL p4];rw[show bJ H4 4 (.bH 1 4 [iV q])=some [iV q] from rfl];simp only[ha,dI];refine⟨m -1,?_,js++[j],hjn,hjb,?_,?_,?_,?_,.inr ⟨H4.next,gq,?_,?_,?_,?_,?_⟩⟩
 . omega
 . omega
 . rw[aA.aG,aA.bD,if_neg (by omega),aA.aI,if_neg (by omega),k2]
 . rw[aA.aG,aA.bD,if_neg (by omega),aA.aI,if_neg (by omega),k3]
 . simp only[aA.aR,aA.bD];omega
 . rw[RA];rfl
 . rw[aA.aG,aA.bD,if_pos rfl];simp only[Dx,Be,Ci,Dw,hq]
 . simp only[aA.aR,aA.bD];omega
 . omega
 omega
end Go.Proofs.YtgggiembljfnhaaGreatDoor
