/-
  Part of the proof of statement 10
-/
import Derived.Test.YtndkpgceodimiaaGreatDoorA17
import Derived.Test.YtndkpgceodimiaaGreatDoorA27
import Derived.Test.YtndkpgceodimiaaGreatDoorA19
set_option linter.unusedVariables false
set_option maxRecDepth 100000
set_option maxHeartbeats 16000000
namespace Go.Proofs.YtndkpgceodimiaaGreatDoor
open Go Go.Av Go.aI Go.sK
attribute [local congr] aV aO aP aL aX aR aQ aH aY
attribute [local irreducible] FC bY eX
theorem xF {a b:aI.V} {A B:Nat} (ha:bT A a) (hb:bT B b) (hs:A+B<2^62) (H:aA):Sg 184 [.agg (cG a),.agg (cG b)] H (.ret (.agg (cG (aI.sub a b)))) H:=by
 obtain⟨a1,a2,a3⟩:=ha;obtain⟨b1,b2,b3⟩:=hb;have w1:IntKind.i64.wrap (a.x -b.x)=a.x -b.x:=fW (B:=A+B) (by omega) (by omega);have w2:IntKind.i64.wrap (a.y -b.y)=a.y -b.y:=fW (B:=A+B) (by omega) (by omega);have w3:IntKind.i64.wrap (a.z -b.z)=a.z -b.z:=fW (B:=A+B) (by omega) (by omega);refine Sp aXd (by simp only[sf,cE]) (by simp only[sf,cE]) ?_ H;unfold aMn;dsimp only;simp only[↓zP,zJ,seval,cG,nC,w1,w2,w3]
 (refine Rx ?_;rfl)
def uJ (a b:aI.V):Bool:=decide (a.x<b.x)||(decide (a.x=b.x)&&(decide (a.y<b.y)||(decide (a.y=b.y)&&decide (a.z<b.z))))
theorem BM {a b:aI.V}:uJ a b=true↔iI a b:=by unfold uJ iI;simp only[Dp,Am,Bg]
theorem Rs (a b:aI.V) (H:aA):Sg 237 [.agg (cG a),.agg (cG b)] H (.ret (.bool (uJ a b))) H:=by
 refine So aYm (by simp only[sf,cE]) ?_ H;unfold aNw;dsimp only;by_cases h0:a.x=b.x
 · have e0:(a.x != b.x)=false:=by simp[h0]
   by_cases h1:a.y=b.y
   · have e1:(a.y != b.y)=false:=(by simp[h1]);have :uJ a b=decide (a.z<b.z):=(by simp[uJ,h0,h1]);rw[this];simp only[↓zP,zJ,seval,cG,nC,e0,e1]
     (refine Rx ?_;rfl)
   have e1:(a.y != b.y)=true:=(by simp[h1]);have :uJ a b=decide (a.y<b.y):=(by simp[uJ,h0,h1]);rw[this];simp only[↓zP,zJ,seval,cG,nC,e0,e1]
   (refine Rx ?_;rfl)
 have e0:(a.x != b.x)=true:=by simp[h0]
 have :uJ a b=decide (a.x<b.x):=by simp[uJ,h0]
 rw[this];simp only[↓zP,zJ,seval,cG,nC,e0]
 (refine Rx ?_;rfl)
theorem Ys {v:aI.V} {B:Nat} (hv:bT B v) (hB:B<2^61) (H:aA):Sg 325 [.agg (cG v)] H (.ret (.bool true)) H:=by
 refine So bAb (by simp only[sf,cE]) ?_ H;unfold aPi;dsimp only;simp only[↓zP,zJ,seval];refine bN [] (fun i vs H'=>H'=((⟨0,.nil⟩:aA).alloc (.cells (cG v) false))) 0 3 (by decide) (by decide) (by decide) ?_ ?_ ?_ ?_ ?_
 · simp only[zB,seval]
 · rfl
 · rintro i f H1 h0 hi hk e1 rfl;simp only[↓zP,zG,seval,e1];exact tB (by omega)
 · rintro i f H1 h0 hi hk e1 rfl;have f1:f 1=.ref 0 0:=hk 1 rfl;have hg:=jP v hi;have hb:=bT.c hv i;have d1:decide (v.at i≥2305843009213693952)=false:=Ae (by omega);have d2:decide (v.at i<=-2305843009213693952)=false:=Ae (by omega);have h3:i+1<=3:=by omega
   refine aF ?_;simp only[↓zP,zJ,seval,f1,e1,aB,hi,aM,hg,d1,d2,h3]
 rintro f H1 hk rfl;simp only[↓zP,seval]
 (refine Rx ?_;rfl)
theorem vh {Z a b c:List AV} (hZ:Z.length=54) (ha:a.length=18) (hb:b.length=18) (hc:c.length=18):
 (if 18<=Z.length then if 36<=(a++Z.drop 18).length then if 54<=((a++Z.drop 18).take 18++b++(a++Z.drop 18).drop 36).length then
   some (((a++Z.drop 18).take 18++b++(a++Z.drop 18).drop 36).take 36++c++((a++Z.drop 18).take 18++b++(a++Z.drop 18).drop 36).drop 54) else none else none else none)=some (a++(b++c)):=by
 have e1:(a++Z.drop 18).take 18=a:=by rw[Co (by omega),Ar (by omega)]
 have e2:(a++Z.drop 18).drop 36=Z.drop 36:=by rw[Ft,Bt (by omega),ha,Jf,Dw]
 rw[e1,e2];have l1:(a++b).length=36:=by simp[ha,hb]
 have e3:(a++b++Z.drop 36).take 36=a++b:=by rw[Co (by omega),Ar (by omega)]
 have e4:(a++b++Z.drop 36).drop 54=[]:=Bt (by simp[ha,hb,hZ]);rw[e3,e4,if_pos (by omega),if_pos (by simp[ha,hZ]),if_pos (by simp[ha,hb,hZ]),Cd,Di]
theorem BG {v:aI.V} (hv:∀i,wE (v.at i)) (H:aA):Sg 187 [.agg (cG v)] H (.ret (.agg (c3 fun i=>cI (v.at i)))) H:=by refine Sp aXg (by simp only[sf,cE]) (by simp only[sf];exact kJ fun i _=>dC _) ?_ H;unfold aMq;dsimp only;have o0:∀H,Sg 248 [.int .i64 v.x] H (.ret (.agg (cI v.x))) H:=vS (hv 0).1 (hv 0).2;have o1:∀H,Sg 248 [.int .i64 v.y] H (.ret (.agg (cI v.y))) H:=vS (hv 1).1 (hv 1).2;have o2:∀H,Sg 248 [.int .i64 v.z] H (.ret (.agg (cI v.z))) H:=vS (hv 2).1 (hv 2).2;refine bQ ?_;simp only[↓zP,zJ,seval];refine fM ?_;refine Dz ?_;simp only[↓zP,zJ,seval,zD,nC,cG,yP];refine eE (o0 _) ?_;simp only[↓zP,zJ,seval,zD,nC];refine eE (o1 _) ?_;simp only[↓zP,zJ,seval,zD,nC];refine eE (o2 _) ?_;simp only[↓zP,zJ,seval,zD];rw[vh (fX fun _ _=>dH 0) (dH _) (dH _) (dH _)];have hr:cI v.x++(cI v.y++cI v.z)=c3 fun i=>cI (v.at i):=rfl;rw[hr];have hl:(c3 fun i=>cI (v.at i)).length=54:=fX fun _ _=>dH _;have hz:(c3 fun _=>cI 0).length=54:=fX fun _ _=>dH _;simp only[zJ,seval,zD,oL hl,oL hz];refine bR ?_;simp only[↓zP,seval];refine⟨rfl,_,by simp only[↓zP,zR,seval,oL hl];rfl,?_⟩;rfl
theorem aKa {x y:Int} (hx:x.natAbs<2^31) (hy:y.natAbs<2^31):(x*y).natAbs<2^62:=by
 rw[Ga];have :=Nat.mul_lt_mul'' hx hy;have e:(2:Nat)^31*2^31=2^62:=by decide
 omega
theorem LL {a b c d:Int} (ha:a.natAbs<2^31) (hb:b.natAbs<2^31) (hc:c.natAbs<2^31) (hd:d.natAbs<2^31) (H:aA):Sg 249 [.agg (cI a),.agg (cI b),.agg (cI c),.agg (cI d)] H (.ret (.agg (cI (a*b -c*d)))) H:=by refine Sp aYz (by simp only[sf,dC]) (by simp only[AV.free,dC]) ?_ H;unfold aOj;dsimp only;have m1:=uD ha hb;have m2:=uD hc hd;have m3:=Yj (aKa ha hb) (aKa hc hd);generalize a*b=p at *;generalize c*d=q at *;refine bQ ?_;simp only[↓zP,zJ,seval];refine fM ?_;refine Dz ?_;simp only[↓zP,zJ,seval,zD];refine eE (m1 _) ?_;simp only[↓zP,zJ,seval,zD];refine eE (m2 _) ?_;simp only[seval];refine eE (m3 _) ?_;simp only[↓zP,zJ,seval,zD];refine bR ?_;simp only[↓zP,seval];refine Rx ?_;rfl
theorem Mg (c:Nat->List AV) (h:∀i,i<3->(c i).length=18):(c3 c).length=54/\(c3 c).take 18=c 0/\((c3 c).drop 18).take 18=c 1/\((c3 c).drop 36).take 18=c 2:=
 ⟨fX h,rT h (i:=0) (by decide),rT h (i:=1) (by decide),rT h (i:=2) (by decide)⟩
theorem mg {v w:aI.V} {A B:Nat} (hv:bT A v) (hw:bT B w) (hA:A<2^31) (hB:B<2^31) (hs:3*(A*B)<2^62) (H:aA):Sg 284 [.agg (c3 fun i=>cI (v.at i)),.agg (c3 fun i=>cI (w.at i))] H (.ret (.agg (cI (aI.dot v w)))) H:=by refine Sp aZp (by simp only[sf,kJ fun i _=>dC _]) (by simp only[AV.free,dC]) ?_ H;unfold aOw;dsimp only;have bv:=fun i=>bT.c hv i;have bw:=fun i=>bT.c hw i;have VD:=bV hv.1 hw.1;have dR:=bV hv.2.1 hw.2.1;have fH:=bV hv.2.2 hw.2.2;have m0:∀H,Sg 291 [.agg (cI (v.at 0)),.agg (cI (w.at 0))] H (.ret (.agg (cI (v.x*w.x)))) H:=uD (by have :=bv 0;omega) (by have :=bw 0;omega);have m1:∀H,Sg 291 [.agg (cI (v.at 1)),.agg (cI (w.at 1))] H (.ret (.agg (cI (v.y*w.y)))) H:=uD (by have :=bv 1;omega) (by have :=bw 1;omega);have m2:∀H,Sg 291 [.agg (cI (v.at 2)),.agg (cI (w.at 2))] H (.ret (.agg (cI (v.z*w.z)))) H:=uD (by have :=bv 2;omega) (by have :=bw 2;omega);have a1:=FM (x:=v.x*w.x) (y:=v.y*w.y) (by omega) (by omega);have a2:=FM (x:=v.x*w.x+v.y*w.y) (y:=v.z*w.z) (by omega) (by omega);have e:v.x*w.x+v.y*w.y+v.z*w.z=aI.dot v w:=rfl;rw[e] at a2;have lv:=Mg (fun i=>cI (v.at i)) (fun i _=>dH _);have lw:=Mg (fun i=>cI (w.at i)) (fun i _=>dH _);refine bQ ?_;simp only[↓zP,zJ,seval];refine fM ?_;simp only[↓zP,zJ,seval,nC,lv,lw];refine bW (m0 _) ?_;simp only[↓zP,zJ,seval];refine fM ?_;refine Dz ?_;simp only[↓zP,zJ,seval,zD,nC,lv,lw];refine eE (m1 _) ?_;simp only[seval];refine eE (a1 _) ?_;simp only[↓zP,zJ,seval,zD];refine fM ?_;refine Dz ?_;simp only[↓zP,zJ,seval,zD,nC,lv,lw];refine eE (m2 _) ?_;simp only[seval];refine eE (a2 _) ?_;simp only[↓zP,zJ,seval,zD];refine bR ?_;simp only[↓zP,seval];refine Rx ?_;rfl
theorem Vs {v w:aI.V} {A B:Nat} (hv:bT A v) (hw:bT B w) (hA:A<2^31) (hB:B<2^31) (H:aA):Sg 186 [.agg (c3 fun i=>cI (v.at i)),.agg (c3 fun i=>cI (w.at i))] H (.ret (.agg (c3 fun i=>cI ((aI.aT v w).at i)))) H:=by refine Sp aXf (by simp only[sf,kJ fun i _=>dC _]) (by simp only[sf];exact kJ fun i _=>dC _) ?_ H;unfold aMp;dsimp only;have bv:=fun i=>bT.c hv i;have bw:=fun i=>bT.c hw i;have m0:∀H,Sg 249 [.agg (cI (v.at 1)),.agg (cI (w.at 2)),.agg (cI (v.at 2)),.agg (cI (w.at 1))] H (.ret (.agg (cI ((aI.aT v w).at 0)))) H:=LL (by have :=bv 1;omega) (by have :=bw 2;omega) (by have :=bv 2;omega) (by have :=bw 1;omega);have m1:∀H,Sg 249 [.agg (cI (v.at 2)),.agg (cI (w.at 0)),.agg (cI (v.at 0)),.agg (cI (w.at 2))] H (.ret (.agg (cI ((aI.aT v w).at 1)))) H:=LL (by have :=bv 2;omega) (by have :=bw 0;omega) (by have :=bv 0;omega) (by have :=bw 2;omega);have m2:∀H,Sg 249 [.agg (cI (v.at 0)),.agg (cI (w.at 1)),.agg (cI (v.at 1)),.agg (cI (w.at 0))] H (.ret (.agg (cI ((aI.aT v w).at 2)))) H:=LL (by have :=bv 0;omega) (by have :=bw 1;omega) (by have :=bv 1;omega) (by have :=bw 0;omega);generalize aI.aT v w=u at *;have lv:=Mg (fun i=>cI (v.at i)) (fun i _=>dH _);have lw:=Mg (fun i=>cI (w.at i)) (fun i _=>dH _);have hl:(c3 fun i=>cI (u.at i)).length=54:=fX fun _ _=>dH _;have hz:(c3 fun _=>cI 0).length=54:=fX fun _ _=>dH _;refine bQ ?_;simp only[↓zP,zJ,seval,yP];refine fM ?_;refine Dz ?_;simp only[↓zP,zJ,seval,zD,nC,lv,lw];refine eE (m0 _) ?_;simp only[↓zP,zJ,seval,zD,nC,lv,lw];refine eE (m1 _) ?_;simp only[↓zP,zJ,seval,zD,nC,lv,lw];refine eE (m2 _) ?_;simp only[↓zP,zJ,seval,zD];rw[vh (fX fun _ _=>dH 0) (dH _) (dH _) (dH _)];have hr:cI (u.at 0)++(cI (u.at 1)++cI (u.at 2))=c3 fun i=>cI (u.at i):=rfl;rw[hr];simp only[zJ,seval,zD,oL hl,oL hz];refine bR ?_;simp only[↓zP,seval];refine⟨rfl,_,by simp only[↓zP,zR,seval,oL hl];rfl,?_⟩;rfl
theorem aHd {v w:aI.V} {A B:Nat} (hv:bT A v) (hw:bT B w) (hA:A<2^31) (hB:B<2^31) (hs:3*(A*B)<2^62) (H:aA):Sg 244 [.agg (cG v),.agg (cG w)] H (.ret (.agg (cI (aI.dot v w)))) H:=by
 have iv:∀i,wE (v.at i):=fun i=>by have :=bT.c hv i;unfold wE;omega
 have iw:∀i,wE (w.at i):=fun i=>by have :=bT.c hw i;unfold wE;omega
 refine Sp aYu (by simp only[sf,cE]) (by simp only[AV.free,dC]) ?_ H;unfold aOe;dsimp only;refine bQ ?_;simp only[↓zP,zJ,seval];refine fM ?_;refine Dz ?_;simp only[↓zP,zJ,seval,zD,oL (aM v)];refine eE (BG iv _) ?_;simp only[↓zP,zJ,seval,zD,oL (aM w)];refine eE (BG iw _) ?_;simp only[seval];refine eE (mg hv hw hA hB hs _) ?_;simp only[↓zP,zJ,seval,zD];refine bR ?_;simp only[↓zP,seval];refine Rx ?_;rfl
theorem me {v w:aI.V} {A B:Nat} (hv:bT A v) (hw:bT B w) (hA:A<2^31) (hB:B<2^31) (H:aA):Sg 128 [.agg (cG v),.agg (cG w)] H (.ret (.agg (c3 fun i=>cI ((aI.aT v w).at i)))) H:=by
 have iv:∀i,wE (v.at i):=fun i=>by have :=bT.c hv i;unfold wE;omega
 have iw:∀i,wE (w.at i):=fun i=>by have :=bT.c hw i;unfold wE;omega
 refine Sp aVp (by simp only[sf,cE]) (by simp only[sf];exact kJ fun i _=>dC _) ?_ H;unfold aLd;dsimp only;have hl:(c3 fun i=>cI ((aI.aT v w).at i)).length=54:=fX fun _ _=>dH _;have hz:(c3 fun _=>cI 0).length=54:=fX fun _ _=>dH _;refine bQ ?_;simp only[↓zP,zJ,seval,yP];refine fM ?_;refine Dz ?_;simp only[↓zP,zJ,seval,zD,oL (aM v)];refine eE (BG iv _) ?_;simp only[↓zP,zJ,seval,zD,oL (aM w)];refine eE (BG iw _) ?_;simp only[seval];refine eE (Vs hv hw hA hB _) ?_;simp only[↓zP,zJ,seval,zD,oL hl,oL hz];refine bR ?_;simp only[↓zP,seval];refine⟨rfl,_,by simp only[↓zP,zR,seval,oL hl];rfl,?_⟩;rfl
end Go.Proofs.YtndkpgceodimiaaGreatDoor
