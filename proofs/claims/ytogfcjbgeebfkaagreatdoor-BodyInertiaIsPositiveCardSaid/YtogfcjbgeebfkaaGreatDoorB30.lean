/-
  Part of the proof of statement 13
-/
import Derived.Test.YtogfcjbgeebfkaaGreatDoorB28
import Derived.Test.YtogfcjbgeebfkaaGreatDoorB29
import Derived.Test.YtogfcjbgeebfkaaGreatDoorB17
set_option linter.unusedSimpArgs false
set_option linter.unusedVariables false
set_option maxRecDepth 100000
set_option maxHeartbeats 16000000
namespace Go.Proofs.YtogfcjbgeebfkaaGreatDoor
open Go Go.Av Go.aH Go.iW
attribute [local congr] aZ aQ aR aL bD aU aS aG bE
attribute [local irreducible] FC bS eE
variable{A B:Nat}
theorem zV{a b:aH.V}(I:bT A a)(X:bT B b)(M:A+B<2^62)(H:aB):Sg 56 [.agg (cS a),.agg (cS b)] H (.ret (.agg (cS (aH.sub a b)))) H:=by
 obtain⟨a1,c,Q⟩:=I;obtain⟨b1,b2,D⟩:=X;have w1:IntKind.i64.wrap (a.x -b.x)=a.x -b.x:=gU (B:=A+B) A0 A0;have w2:IntKind.i64.wrap (a.y -b.y)=a.y -b.y:=gU (B:=A+B) A0 A0;have R:IntKind.i64.wrap (a.z -b.z)=a.z -b.z:=gU (B:=A+B) A0 A0;refine Sp bRc Zae Zae ?_ H;unfold W56;exact Zb8
def vU(a b:aH.V):Bool:=decide (a.x<b.x)||(decide (a.x=b.x)&&(decide (a.y<b.y)||(decide (a.y=b.y)&&decide (a.z<b.z))))
theorem EM{a b:aH.V}:vU a b=true↔jC a b:=by unfold vU jC;simp only[Eb,Ak,Bs]
theorem Tk(a b:aH.V)(H:aB):Sg 233 [.agg (cS a),.agg (cS b)] H (.ret (.bool (vU a b))) H:=by
 refine So bIr Zae ?_ H;unfold aWi;dsimp only;by_cases G:a.x=b.x
 . have Y:(a.x != b.x)=false:=by simp[G]
   by_cases O:a.y=b.y
   . have T:(a.y != b.y)=false:=(by simp[O]);have :vU a b=decide (a.z<b.z):=(by simp[vU,G,O]);rw[this];simp only[↓zP,zJ,seval,cS,AH,Y,T]
     (refine Rx ?_;rfl)
   have T:(a.y != b.y)=true:=(by simp[O]);have :vU a b=decide (a.y<b.y):=(by simp[vU,G,O]);rw[this];simp only[↓zP,zJ,seval,cS,AH,Y,T]
   (refine Rx ?_;rfl)
 have Y:(a.x != b.x)=true:=by simp[G]
 have :vU a b=decide (a.x<b.x):=by simp[vU,G]
 rw[this];simp only[↓zP,zJ,seval,cS,AH,Y]
 (refine Rx ?_;rfl)
variable{v:aH.V}
theorem jg(J:bT B v)(r:B<2^61)(H:aB):Sg 55 [.agg (cS v)] H (.ret (.bool true)) H:=by
 refine So bRb Zae ?_ H;unfold W55;dsimp only;refine Ty ?_;refine cH [] (fun i vs H'=>H'=((⟨0,.nil⟩:aB).alloc (.cells (cS v) false))) 0 3 A1 A1 A1 ?_ ?_ ?_ ?_ ?_
 . exact zq
 . rfl
 . rintro i f H1 G F E T rfl;exact ZaF
 . rintro i f H1 G F E T rfl;have u:f 1=.ref 0 0:=E 1 rfl;have d:=iY v F;have X:=bT.c J i;have p:decide (v.at i≥2305843009213693952)=false:=Ac A0;have q:decide (v.at i<=-2305843009213693952)=false:=Ac A0;have a:i+1<=3:=by omega
   refine aM ?_;simp only[↓zP,zJ,seval,u,T,aI,F,aW,d,p,q,a]
 rintro f H1 E rfl;refine Tx ?_
 (refine Rx ?_;rfl)
theorem aEj{Z a b c:List AV}(d:Z.length=54)(I:a.length=18)(X:b.length=18)(R:c.length=18):
 (if 18<=Z.length then if 36<=(a++Z.drop 18).length then if 54<=((a++Z.drop 18).take 18++b++(a++Z.drop 18).drop 36).length then
   some (((a++Z.drop 18).take 18++b++(a++Z.drop 18).drop 36).take 36++c++((a++Z.drop 18).take 18++b++(a++Z.drop 18).drop 36).drop 54) else none else none else none)=some (a++(b++c)):=by
 have T:(a++Z.drop 18).take 18=a:=by rw[Ck A0,Bd A0]
 have o:(a++Z.drop 18).drop 36=Z.drop 36:=by rw[Hj,Bl A0,I,Kk,Cw]
 rw[T,o];have L:(a++b).length=36:=by simp[I,X]
 have C:(a++b++Z.drop 36).take 36=a++b:=by rw[Ck A0,Bd A0]
 have e:(a++b++Z.drop 36).drop 54=[]:=Bl (by simp[I,X,d]);rw[C,e,if_pos A0,if_pos (by simp[I,d]),if_pos (by simp[I,X,d]),Bx,Di]
theorem EC(J:∀i,JV (v.at i))(H:aB):Sg 189 [.agg (cS v)] H (.ret (.agg (c3 fun i=>cI (v.at i)))) H:=by refine Sp bHt Zae ZaQ ?_ H;unfold aVl;dsimp only;have t:∀H,Sg 59 [.int .i64 v.x] H (.ret (.agg (cI v.x))) H:=xX (J 0).1 (J 0).2;have o1:∀H,Sg 59 [.int .i64 v.y] H (.ret (.agg (cI v.y))) H:=xX (J 1).1 (J 1).2;have o2:∀H,Sg 59 [.int .i64 v.z] H (.ret (.agg (cI v.z))) H:=xX (J 2).1 (J 2).2;refine bP ?_;refine Ty ?_;refine fQ ?_;refine Dz ?_;simp only[↓zP,zJ,seval,zD,AH,cS,BN];refine gV (t _) ?_;simp only[↓zP,zJ,seval,zD,AH];refine gV (o1 _) ?_;simp only[↓zP,zJ,seval,zD,AH];refine gV (o2 _) ?_;simp only[↓zP,zJ,seval,zD];rw[aEj (gY fun _ _=>cL 0) (cL _) (cL _) (cL _)];have a:cI v.x++(cI v.y++cI v.z)=c3 fun i=>cI (v.at i):=rfl;rw[a];have U:(c3 fun i=>cI (v.at i)).length=54:=gY fun _ _=>cL _;have s:(c3 fun _=>cI 0).length=54:=gY fun _ _=>cL _;simp only[zJ,seval,zD,oL U,oL s];refine bQ ?_;refine Tx ?_;refine⟨rfl,_,by simp only[↓zP,zR,seval,oL U];rfl,?_⟩;rfl
theorem aTd{x y:Int}(C:x.natAbs<2^31)(Q:y.natAbs<2^31):(x*y).natAbs<2^62:=by
 exact Zch
theorem NH{a b c d:Int}(I:a.natAbs<2^31)(X:b.natAbs<2^31)(R:c.natAbs<2^31)(hd:d.natAbs<2^31)(H:aB):Sg 245 [.agg (cI a),.agg (cI b),.agg (cI c),.agg (cI d)] H (.ret (.agg (cI (a*b -c*d)))) H:=by refine Sp bJb Zaj Zat ?_ H;unfold aWs;dsimp only;have f:=vO I X;have Y:=vO R hd;have e:=ie (aTd I X) (aTd R hd);generalize a*b=p at *;generalize c*d=q at *;refine bP ?_;refine Ty ?_;refine fQ ?_;refine Dz ?_;refine Wz ?_;refine bQ ?_;refine Tx ?_;refine Rx ?_;rfl
theorem Of(c:Nat->List AV)(h:∀i,i<3->(c i).length=18):(c3 c).length=54/\(c3 c).take 18=c 0/\((c3 c).drop 18).take 18=c 1/\((c3 c).drop 36).take 18=c 2:=
 ⟨gY h,tG h (i:=0) A1,tG h (i:=1) A1,tG h (i:=2) A1⟩
variable{w:aH.V}
theorem zu(J:bT A v)(L:bT B w)(n:A<2^31)(r:B<2^31)(M:3*(A*B)<2^62)(H:aB):Sg 269 [.agg (c3 fun i=>cI (v.at i)),.agg (c3 fun i=>cI (w.at i))] H (.ret (.agg (cI (aH.dot v w)))) H:=by refine Sp bJr Za2 Zat ?_ H;unfold aXi;dsimp only;have O:=fun i=>bT.c J i;have bw:=fun i=>bT.c L i;have q:=bY J.1 L.1;have f:=bY J.2.1 L.2.1;have o:=bY J.2.2 L.2.2;have b:∀H,Sg 173 [.agg (cI (v.at 0)),.agg (cI (w.at 0))] H (.ret (.agg (cI (v.x*w.x)))) H:=vO (by have :=O 0;omega) (by have :=bw 0;omega);have R:∀H,Sg 173 [.agg (cI (v.at 1)),.agg (cI (w.at 1))] H (.ret (.agg (cI (v.y*w.y)))) H:=vO (by have :=O 1;omega) (by have :=bw 1;omega);have Y:∀H,Sg 173 [.agg (cI (v.at 2)),.agg (cI (w.at 2))] H (.ret (.agg (cI (v.z*w.z)))) H:=vO (by have :=O 2;omega) (by have :=bw 2;omega);have a1:=JK (x:=v.x*w.x) (y:=v.y*w.y) A0 A0;have a:=JK (x:=v.x*w.x+v.y*w.y) (y:=v.z*w.z) A0 A0;have e:v.x*w.x+v.y*w.y+v.z*w.z=aH.dot v w:=rfl;rw[e] at a;have d:=Of (fun i=>cI (v.at i)) (fun i _=>cL _);have Q:=Of (fun i=>cI (w.at i)) (fun i _=>cL _);refine bP ?_;refine Ty ?_;refine fQ ?_;refine Wz ?_;refine fQ ?_;refine Dz ?_;refine Wz ?_;refine fQ ?_;refine Dz ?_;refine Wz ?_;refine bQ ?_;refine Tx ?_;refine Rx ?_;rfl
theorem YQ(J:bT A v)(L:bT B w)(n:A<2^31)(r:B<2^31)(H:aB):Sg 188 [.agg (c3 fun i=>cI (v.at i)),.agg (c3 fun i=>cI (w.at i))] H (.ret (.agg (c3 fun i=>cI ((aH.bC v w).at i)))) H:=by refine Sp bHs Za2 ZaQ ?_ H;unfold aVk;dsimp only;have O:=fun i=>bT.c J i;have bw:=fun i=>bT.c L i;have a:∀H,Sg 245 [.agg (cI (v.at 1)),.agg (cI (w.at 2)),.agg (cI (v.at 2)),.agg (cI (w.at 1))] H (.ret (.agg (cI ((aH.bC v w).at 0)))) H:=NH (by have :=O 1;omega) (by have :=bw 2;omega) (by have :=O 2;omega) (by have :=bw 1;omega);have R:∀H,Sg 245 [.agg (cI (v.at 2)),.agg (cI (w.at 0)),.agg (cI (v.at 0)),.agg (cI (w.at 2))] H (.ret (.agg (cI ((aH.bC v w).at 1)))) H:=NH (by have :=O 2;omega) (by have :=bw 0;omega) (by have :=O 0;omega) (by have :=bw 2;omega);have Y:∀H,Sg 245 [.agg (cI (v.at 0)),.agg (cI (w.at 1)),.agg (cI (v.at 1)),.agg (cI (w.at 0))] H (.ret (.agg (cI ((aH.bC v w).at 2)))) H:=NH (by have :=O 0;omega) (by have :=bw 1;omega) (by have :=O 1;omega) (by have :=bw 0;omega);generalize aH.bC v w=u at *;have d:=Of (fun i=>cI (v.at i)) (fun i _=>cL _);have Q:=Of (fun i=>cI (w.at i)) (fun i _=>cL _);have U:(c3 fun i=>cI (u.at i)).length=54:=gY fun _ _=>cL _;have s:(c3 fun _=>cI 0).length=54:=gY fun _ _=>cL _;refine bP ?_;simp only[↓zP,zJ,seval,BN];refine fQ ?_;refine Dz ?_;simp only[↓zP,zJ,seval,zD,AH,d,Q,BN];refine gV (a _) ?_;simp only[↓zP,zJ,seval,zD,AH,d,Q];refine gV (R _) ?_;simp only[↓zP,zJ,seval,zD,AH,d,Q];refine gV (Y _) ?_;simp only[↓zP,zJ,seval,zD];rw[aEj (gY fun _ _=>cL 0) (cL _) (cL _) (cL _)];have b:cI (u.at 0)++(cI (u.at 1)++cI (u.at 2))=c3 fun i=>cI (u.at i):=rfl;rw[b];simp only[zJ,seval,zD,oL U,oL s];refine bQ ?_;refine Tx ?_;refine⟨rfl,_,by simp only[↓zP,zR,seval,oL U];rfl,?_⟩;rfl
theorem aPt(J:bT A v)(L:bT B w)(n:A<2^31)(r:B<2^31)(M:3*(A*B)<2^62)(H:aB):Sg 215 [.agg (cS v),.agg (cS w)] H (.ret (.agg (cI (aH.dot v w)))) H:=by
 have a:∀i,JV (v.at i):=fun i=>by have :=bT.c J i;unfold JV;omega
 have b:∀i,JV (w.at i):=fun i=>by have :=bT.c L i;unfold JV;omega
 refine Sp bIi Zae Zat ?_ H;unfold aVz;dsimp only;refine bP ?_;refine Ty ?_;refine fQ ?_;refine Dz ?_;have :=oL (aW v);have :=EC a;have :=oL (aW w);have :=EC b;have :=zu J L n r M;refine Wz ?_;refine bQ ?_;refine Tx ?_;exact ZaB
theorem zt(J:bT A v)(L:bT B w)(n:A<2^31)(r:B<2^31)(H:aB):Sg 99 [.agg (cS v),.agg (cS w)] H (.ret (.agg (c3 fun i=>cI ((aH.bC v w).at i)))) H:=by
 have a:∀i,JV (v.at i):=fun i=>by have :=bT.c J i;unfold JV;omega
 have b:∀i,JV (w.at i):=fun i=>by have :=bT.c L i;unfold JV;omega
 refine Sp bRs Zae ZaQ ?_ H;unfold W99;dsimp only;have U:(c3 fun i=>cI ((aH.bC v w).at i)).length=54:=gY fun _ _=>cL _;have s:(c3 fun _=>cI 0).length=54:=gY fun _ _=>cL _;refine bP ?_;simp only[↓zP,zJ,seval,BN];refine fQ ?_;refine Dz ?_;have :=oL (aW v);have :=EC a;have :=oL (aW w);have :=EC b;have :=YQ J L n r;have :=oL U;have :=oL s;refine Wz ?_;refine bQ ?_;refine Tx ?_;refine⟨rfl,_,by simp only[↓zP,zR,seval,oL U];rfl,?_⟩;rfl
end Go.Proofs.YtogfcjbgeebfkaaGreatDoor
