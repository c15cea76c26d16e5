/-
  Part of the proof of statement 12
-/
import Derived.Test.YtgggiembljfnhaaGreatDoorB17
import Derived.Test.YtgggiembljfnhaaGreatDoorB28
import Derived.Test.YtgggiembljfnhaaGreatDoorB19
set_option linter.unusedVariables false
set_option linter.unusedSimpArgs false
set_option maxRecDepth 100000
set_option maxHeartbeats 16000000
namespace Go.Proofs.YtgggiembljfnhaaGreatDoor
open Go Go.Av Go.aP Go.uE
attribute [local congr] aT aI aL aH aX aQ aM aF aY
attribute [local irreducible] FC bS eF
theorem wY {a b:aP.V} {A B:Nat} (ha:cG A a) (hb:cG B b) (hs:A+B<2^62) (H:aA):Sg 196 [.agg (cU a),.agg (cU b)] H (.ret (.agg (cU (aP.sub a b)))) H:=by
 obtain⟨a1,a2,a3⟩:=ha;obtain⟨b1,b2,b3⟩:=hb;have w1:IntKind.i64.wrap (a.x -b.x)=a.x -b.x:=fV (B:=A+B) (by omega) (by omega);have w2:IntKind.i64.wrap (a.y -b.y)=a.y -b.y:=fV (B:=A+B) (by omega) (by omega);have w3:IntKind.i64.wrap (a.z -b.z)=a.z -b.z:=fV (B:=A+B) (by omega) (by omega);refine Sp aYr Zal Zal ?_ H;unfold aNn;dsimp only;simp only[↓zP,zJ,seval,cU,sT,w1,w2,w3]
 (refine Rx ?_;rfl)
def uD (a b:aP.V):Bool:=decide (a.x<b.x)||(decide (a.x=b.x)&&(decide (a.y<b.y)||(decide (a.y=b.y)&&decide (a.z<b.z))))
theorem BI {a b:aP.V}:uD a b=true↔iY a b:=by unfold uD iY;simp only[Dm,Al,Bd]
theorem Rc (a b:aP.V) (H:aA):Sg 257 [.agg (cU a),.agg (cU b)] H (.ret (.bool (uD a b))) H:=by
 refine So bAf Zal ?_ H;unfold aPb;dsimp only;by_cases h0:a.x=b.x
 . have e0:(a.x != b.x)=false:=by simp[h0]
   by_cases h1:a.y=b.y
   . have e1:(a.y != b.y)=false:=(by simp[h1]);have :uD a b=decide (a.z<b.z):=(by simp[uD,h0,h1]);rw[this];simp only[↓zP,zJ,seval,cU,sT,e0,e1]
     (refine Rx ?_;rfl)
   have e1:(a.y != b.y)=true:=(by simp[h1]);have :uD a b=decide (a.y<b.y):=(by simp[uD,h0,h1]);rw[this];simp only[↓zP,zJ,seval,cU,sT,e0,e1]
   (refine Rx ?_;rfl)
 have e0:(a.x != b.x)=true:=by simp[h0]
 have :uD a b=decide (a.x<b.x):=by simp[uD,h0]
 rw[this];simp only[↓zP,zJ,seval,cU,sT,e0]
 (refine Rx ?_;rfl)
theorem Yd {v:aP.V} {B:Nat} (hv:cG B v) (hB:B<2^61) (H:aA):Sg 337 [.agg (cU v)] H (.ret (.bool true)) H:=by
 refine So bCc Zal ?_ H;unfold aQv;dsimp only;refine Ty ?_;refine bP [] (fun i vs H'=>H'=((⟨0,.nil⟩:aA).alloc (.cells (cU v) false))) 0 3 (by decide) (by decide) (by decide) ?_ ?_ ?_ ?_ ?_
 . exact zq
 . rfl
 . rintro i f H1 h0 hi hk e1 rfl;simp only[↓zP,zG,seval,e1];exact Zae
 . rintro i f H1 h0 hi hk e1 rfl;have f1:f 1=.ref 0 0:=hk 1 rfl;have hg:=kQ v hi;have hb:=cG.c hv i;have d1:decide (v.at i≥2305843009213693952)=false:=Ag (by omega);have d2:decide (v.at i<=-2305843009213693952)=false:=Ag (by omega);have h3:i+1<=3:=by omega
   refine aJ ?_;simp only[↓zP,zJ,seval,f1,e1,aB,hi,aV,hg,d1,d2,h3]
 rintro f H1 hk rfl;refine Tx ?_
 (refine Rx ?_;rfl)
theorem uh {Z a b c:List AV} (hZ:Z.length=54) (ha:a.length=18) (hb:b.length=18) (hc:c.length=18):
 (if 18<=Z.length then if 36<=(a++Z.drop 18).length then if 54<=((a++Z.drop 18).take 18++b++(a++Z.drop 18).drop 36).length then
   some (((a++Z.drop 18).take 18++b++(a++Z.drop 18).drop 36).take 36++c++((a++Z.drop 18).take 18++b++(a++Z.drop 18).drop 36).drop 54) else none else none else none)=some (a++(b++c)):=by
 have e1:(a++Z.drop 18).take 18=a:=by rw[Ce (by omega),Aq (by omega)]
 have e2:(a++Z.drop 18).drop 36=Z.drop 36:=by rw[Hj,Ca (by omega),ha,Jc,Db]
 rw[e1,e2];have l1:(a++b).length=36:=by simp[ha,hb]
 have e3:(a++b++Z.drop 36).take 36=a++b:=by rw[Ce (by omega),Aq (by omega)]
 have e4:(a++b++Z.drop 36).drop 54=[]:=Ca (by simp[ha,hb,hZ]);rw[e3,e4,if_pos (by omega),if_pos (by simp[ha,hZ]),if_pos (by simp[ha,hb,hZ]),Ch,Ek]
theorem BB {v:aP.V} (hv:∀i,JF (v.at i)) (H:aA):Sg 199 [.agg (cU v)] H (.ret (.agg (c3 fun i=>cI (v.at i)))) H:=by refine Sp aYu Zal (by simp only[sf];exact xI fun i _=>dG _) ?_ H;unfold aNq;dsimp only;have o0:∀H,Sg 268 [.int .i64 v.x] H (.ret (.agg (cI v.x))) H:=vI (hv 0).1 (hv 0).2;have o1:∀H,Sg 268 [.int .i64 v.y] H (.ret (.agg (cI v.y))) H:=vI (hv 1).1 (hv 1).2;have o2:∀H,Sg 268 [.int .i64 v.z] H (.ret (.agg (cI v.z))) H:=vI (hv 2).1 (hv 2).2;refine bQ ?_;refine Ty ?_;refine fF ?_;refine Dz ?_;simp only[↓zP,zJ,seval,zD,sT,cU,Mk];refine fP (o0 _) ?_;simp only[↓zP,zJ,seval,zD,sT];refine fP (o1 _) ?_;simp only[↓zP,zJ,seval,zD,sT];refine fP (o2 _) ?_;simp only[↓zP,zJ,seval,zD];rw[uh (tH fun _ _=>dZ 0) (dZ _) (dZ _) (dZ _)];have hr:cI v.x++(cI v.y++cI v.z)=c3 fun i=>cI (v.at i):=rfl;rw[hr];have hl:(c3 fun i=>cI (v.at i)).length=54:=tH fun _ _=>dZ _;have hz:(c3 fun _=>cI 0).length=54:=tH fun _ _=>dZ _;simp only[zJ,seval,zD,oL hl,oL hz];refine bR ?_;refine Tx ?_;refine⟨rfl,_,by simp only[↓zP,zR,seval,oL hl];rfl,?_⟩;rfl
theorem aKu {x y:Int} (hx:x.natAbs<2^31) (hy:y.natAbs<2^31):(x*y).natAbs<2^62:=by
 rw[Ga];have :=Nat.mul_lt_mul'' hx hy;have e:(2:Nat)^31*2^31=2^62:=by decide
 omega
theorem Kn {a b c d:Int} (ha:a.natAbs<2^31) (hb:b.natAbs<2^31) (hc:c.natAbs<2^31) (hd:d.natAbs<2^31) (H:aA):Sg 269 [.agg (cI a),.agg (cI b),.agg (cI c),.agg (cI d)] H (.ret (.agg (cI (a*b -c*d)))) H:=by refine Sp bAs Zav ZaL ?_ H;unfold aPo;dsimp only;have m1:=tX ha hb;have m2:=tX hc hd;have m3:=YR (aKu ha hb) (aKu hc hd);generalize a*b=p at *;generalize c*d=q at *;refine bQ ?_;refine Ty ?_;refine fF ?_;refine Dz ?_;simp only[↓zP,zJ,seval,zD];refine fP (m1 _) ?_;simp only[↓zP,zJ,seval,zD];refine fP (m2 _) ?_;simp only[seval];refine fP (m3 _) ?_;simp only[↓zP,zJ,seval,zD];refine bR ?_;refine Tx ?_;refine Rx ?_;rfl
theorem MI (c:Nat->List AV) (h:∀i,i<3->(c i).length=18):(c3 c).length=54/\(c3 c).take 18=c 0/\((c3 c).drop 18).take 18=c 1/\((c3 c).drop 36).take 18=c 2:=
 ⟨tH h,NG h (i:=0) (by decide),NG h (i:=1) (by decide),NG h (i:=2) (by decide)⟩
theorem lg {v w:aP.V} {A B:Nat} (hv:cG A v) (hw:cG B w) (hA:A<2^31) (hB:B<2^31) (hs:3*(A*B)<2^62) (H:aA):Sg 305 [.agg (c3 fun i=>cI (v.at i)),.agg (c3 fun i=>cI (w.at i))] H (.ret (.agg (cI (aP.dot v w)))) H:=by refine Sp bBm (by simp only[sf,xI fun i _=>dG _]) ZaL ?_ H;unfold aQh;dsimp only;have bv:=fun i=>cG.c hv i;have bw:=fun i=>cG.c hw i;have XY:=cC hv.1 hw.1;have eQ:=cC hv.2.1 hw.2.1;have gJ:=cC hv.2.2 hw.2.2;have m0:∀H,Sg 312 [.agg (cI (v.at 0)),.agg (cI (w.at 0))] H (.ret (.agg (cI (v.x*w.x)))) H:=tX (by have :=bv 0;omega) (by have :=bw 0;omega);have m1:∀H,Sg 312 [.agg (cI (v.at 1)),.agg (cI (w.at 1))] H (.ret (.agg (cI (v.y*w.y)))) H:=tX (by have :=bv 1;omega) (by have :=bw 1;omega);have m2:∀H,Sg 312 [.agg (cI (v.at 2)),.agg (cI (w.at 2))] H (.ret (.agg (cI (v.z*w.z)))) H:=tX (by have :=bv 2;omega) (by have :=bw 2;omega);have a1:=FO (x:=v.x*w.x) (y:=v.y*w.y) (by omega) (by omega);have a2:=FO (x:=v.x*w.x+v.y*w.y) (y:=v.z*w.z) (by omega) (by omega);have e:v.x*w.x+v.y*w.y+v.z*w.z=aP.dot v w:=rfl;rw[e] at a2;have lv:=MI (fun i=>cI (v.at i)) (fun i _=>dZ _);have lw:=MI (fun i=>cI (w.at i)) (fun i _=>dZ _);refine bQ ?_;refine Ty ?_;refine fF ?_;simp only[↓zP,zJ,seval,sT,lv,lw];refine bY (m0 _) ?_;refine Ty ?_;refine fF ?_;refine Dz ?_;simp only[↓zP,zJ,seval,zD,sT,lv,lw];refine fP (m1 _) ?_;simp only[seval];refine fP (a1 _) ?_;simp only[↓zP,zJ,seval,zD];refine fF ?_;refine Dz ?_;simp only[↓zP,zJ,seval,zD,sT,lv,lw];refine fP (m2 _) ?_;simp only[seval];refine fP (a2 _) ?_;simp only[↓zP,zJ,seval,zD];refine bR ?_;refine Tx ?_;refine Rx ?_;rfl
theorem Vd {v w:aP.V} {A B:Nat} (hv:cG A v) (hw:cG B w) (hA:A<2^31) (hB:B<2^31) (H:aA):Sg 198 [.agg (c3 fun i=>cI (v.at i)),.agg (c3 fun i=>cI (w.at i))] H (.ret (.agg (c3 fun i=>cI ((aP.bC v w).at i)))) H:=by refine Sp aYt (by simp only[sf,xI fun i _=>dG _]) (by simp only[sf];exact xI fun i _=>dG _) ?_ H;unfold aNp;dsimp only;have bv:=fun i=>cG.c hv i;have bw:=fun i=>cG.c hw i;have m0:∀H,Sg 269 [.agg (cI (v.at 1)),.agg (cI (w.at 2)),.agg (cI (v.at 2)),.agg (cI (w.at 1))] H (.ret (.agg (cI ((aP.bC v w).at 0)))) H:=Kn (by have :=bv 1;omega) (by have :=bw 2;omega) (by have :=bv 2;omega) (by have :=bw 1;omega);have m1:∀H,Sg 269 [.agg (cI (v.at 2)),.agg (cI (w.at 0)),.agg (cI (v.at 0)),.agg (cI (w.at 2))] H (.ret (.agg (cI ((aP.bC v w).at 1)))) H:=Kn (by have :=bv 2;omega) (by have :=bw 0;omega) (by have :=bv 0;omega) (by have :=bw 2;omega);have m2:∀H,Sg 269 [.agg (cI (v.at 0)),.agg (cI (w.at 1)),.agg (cI (v.at 1)),.agg (cI (w.at 0))] H (.ret (.agg (cI ((aP.bC v w).at 2)))) H:=Kn (by have :=bv 0;omega) (by have :=bw 1;omega) (by have :=bv 1;omega) (by have :=bw 0;omega);generalize aP.bC v w=u at *;have lv:=MI (fun i=>cI (v.at i)) (fun i _=>dZ _);have lw:=MI (fun i=>cI (w.at i)) (fun i _=>dZ _);have hl:(c3 fun i=>cI (u.at i)).length=54:=tH fun _ _=>dZ _;have hz:(c3 fun _=>cI 0).length=54:=tH fun _ _=>dZ _;refine bQ ?_;simp only[↓zP,zJ,seval,Mk];refine fF ?_;refine Dz ?_;simp only[↓zP,zJ,seval,zD,sT,lv,lw,Mk];refine fP (m0 _) ?_;simp only[↓zP,zJ,seval,zD,sT,lv,lw];refine fP (m1 _) ?_;simp only[↓zP,zJ,seval,zD,sT,lv,lw];refine fP (m2 _) ?_;simp only[↓zP,zJ,seval,zD];rw[uh (tH fun _ _=>dZ 0) (dZ _) (dZ _) (dZ _)];have hr:cI (u.at 0)++(cI (u.at 1)++cI (u.at 2))=c3 fun i=>cI (u.at i):=rfl;rw[hr];simp only[zJ,seval,zD,oL hl,oL hz];refine bR ?_;refine Tx ?_;refine⟨rfl,_,by simp only[↓zP,zR,seval,oL hl];rfl,?_⟩;rfl
theorem aHq {v w:aP.V} {A B:Nat} (hv:cG A v) (hw:cG B w) (hA:A<2^31) (hB:B<2^31) (hs:3*(A*B)<2^62) (H:aA):Sg 264 [.agg (cU v),.agg (cU w)] H (.ret (.agg (cI (aP.dot v w)))) H:=by
 have iv:∀i,JF (v.at i):=fun i=>by have :=cG.c hv i;unfold JF;omega
 have iw:∀i,JF (w.at i):=fun i=>by have :=cG.c hw i;unfold JF;omega
 refine Sp bAn Zal ZaL ?_ H;unfold aPj;dsimp only;refine bQ ?_;refine Ty ?_;refine fF ?_;refine Dz ?_;simp only[↓zP,zJ,seval,zD,oL (aV v)];refine fP (BB iv _) ?_;simp only[↓zP,zJ,seval,zD,oL (aV w)];refine fP (BB iw _) ?_;simp only[seval];refine fP (lg hv hw hA hB hs _) ?_;simp only[↓zP,zJ,seval,zD];refine bR ?_;refine Tx ?_;exact ZaQ
theorem k9 {v w:aP.V} {A B:Nat} (hv:cG A v) (hw:cG B w) (hA:A<2^31) (hB:B<2^31) (H:aA):Sg 150 [.agg (cU v),.agg (cU w)] H (.ret (.agg (c3 fun i=>cI ((aP.bC v w).at i)))) H:=by
 have iv:∀i,JF (v.at i):=fun i=>by have :=cG.c hv i;unfold JF;omega
 have iw:∀i,JF (w.at i):=fun i=>by have :=cG.c hw i;unfold JF;omega
 refine Sp aXr Zal (by simp only[sf];exact xI fun i _=>dG _) ?_ H;unfold aMn;dsimp only;have hl:(c3 fun i=>cI ((aP.bC v w).at i)).length=54:=tH fun _ _=>dZ _;have hz:(c3 fun _=>cI 0).length=54:=tH fun _ _=>dZ _;refine bQ ?_;simp only[↓zP,zJ,seval,Mk];refine fF ?_;refine Dz ?_;simp only[↓zP,zJ,seval,zD,oL (aV v)];refine fP (BB iv _) ?_;simp only[↓zP,zJ,seval,zD,oL (aV w)];refine fP (BB iw _) ?_;simp only[seval];refine fP (Vd hv hw hA hB _) ?_;simp only[↓zP,zJ,seval,zD,oL hl,oL hz];refine bR ?_;refine Tx ?_;refine⟨rfl,_,by simp only[↓zP,zR,seval,oL hl];rfl,?_⟩;rfl
end Go.Proofs.YtgggiembljfnhaaGreatDoor
