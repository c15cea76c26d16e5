/-
  Part of the proof of statement 9
-/
import Derived.Test.YtogfcjbgeebfkaaGreatDoorA28
import Derived.Test.YtogfcjbgeebfkaaGreatDoorA29
import Derived.Test.YtogfcjbgeebfkaaGreatDoorA17
set_option linter.unusedSimpArgs false
set_option linter.unusedVariables false
set_option maxRecDepth 100000
set_option maxHeartbeats 16000000
namespace Go.Proofs.YtogfcjbgeebfkaaGreatDoor
open Go Go.Av Go.aC Go.jG
attribute [local congr] aX aQ aR aL bA aW aS aG bB
attribute [local irreducible] FC bT eI
variable{A B:Nat}
theorem AL{a b:aC.V}(I:bN A a)(X:bN B b)(M:A+B<2^62)(H:aA):Sg 56 [.agg (cG a),.agg (cG b)] H (.ret (.agg (cG (aC.sub a b)))) H:=by
 obtain⟨a1,Q,s⟩:=I;obtain⟨R,L,k⟩:=X;have w1:IntKind.i64.wrap (a.x -b.x)=a.x -b.x:=gW (B:=A+B) A0 A0;have w2:IntKind.i64.wrap (a.y -b.y)=a.y -b.y:=gW (B:=A+B) A0 A0;have G:IntKind.i64.wrap (a.z -b.z)=a.z -b.z:=gW (B:=A+B) A0 A0;refine Sp bQr Zae Zae ?_ H;unfold W56;exact Zcp
def wS(a b:aC.V):Bool:=decide (a.x<b.x)||(decide (a.x=b.x)&&(decide (a.y<b.y)||(decide (a.y=b.y)&&decide (a.z<b.z))))
theorem FA{a b:aC.V}:wS a b=true↔iO a b:=by unfold wS iO;simp only[Ea,Ak,Br]
theorem UC(a b:aC.V)(H:aA):Sg 233 [.agg (cG a),.agg (cG b)] H (.ret (.bool (wS a b))) H:=by
 refine So bIx Zae ?_ H;unfold aWs;dsimp only;by_cases o:a.x=b.x
 . have Y:(a.x != b.x)=false:=by simp[o]
   by_cases O:a.y=b.y
   . have T:(a.y != b.y)=false:=(by simp[O]);have :wS a b=decide (a.z<b.z):=(by simp[wS,o,O]);rw[this];simp only[↓zP,zJ,seval,cG,AR,Y,T]
     (refine Rx ?_;rfl)
   have T:(a.y != b.y)=true:=(by simp[O]);have :wS a b=decide (a.y<b.y):=(by simp[wS,o,O]);rw[this];simp only[↓zP,zJ,seval,cG,AR,Y,T]
   (refine Rx ?_;rfl)
 have Y:(a.x != b.x)=true:=by simp[o]
 have :wS a b=decide (a.x<b.x):=by simp[wS,o]
 rw[this];simp only[↓zP,zJ,seval,cG,AR,Y]
 (refine Rx ?_;rfl)
variable{v:aC.V}
theorem jx(J:bN B v)(a:B<2^61)(H:aA):Sg 55 [.agg (cG v)] H (.ret (.bool true)) H:=by
 refine So bQq Zae ?_ H;unfold W55;dsimp only;refine Ty ?_;refine cL [] (fun i vs H'=>H'=((⟨0,.nil⟩:aA).alloc (.cells (cG v) false))) 0 3 A1 A1 A1 ?_ ?_ ?_ ?_ ?_
 . exact zq
 . rfl
 . rintro i f H1 o F E T rfl;exact ZaK
 . rintro i f H1 o F E T rfl;have b:f 1=.ref 0 0:=E 1 rfl;have t:=iC v F;have X:=bN.c J i;have S:decide (v.at i≥2305843009213693952)=false:=Ab A0;have e:decide (v.at i<=-2305843009213693952)=false:=Ab A0;have W:i+1<=3:=by omega
   refine aJ ?_;simp only[↓zP,zJ,seval,b,T,aD,F,aT,t,S,e,W]
 rintro f H1 E rfl;refine Tx ?_
 (refine Rx ?_;rfl)
theorem aEz{Z a b c:List AV}(d:Z.length=54)(I:a.length=18)(X:b.length=18)(R:c.length=18):
 (if 18<=Z.length then if 36<=(a++Z.drop 18).length then if 54<=((a++Z.drop 18).take 18++b++(a++Z.drop 18).drop 36).length then
   some (((a++Z.drop 18).take 18++b++(a++Z.drop 18).drop 36).take 36++c++((a++Z.drop 18).take 18++b++(a++Z.drop 18).drop 36).drop 54) else none else none else none)=some (a++(b++c)):=by
 have T:(a++Z.drop 18).take 18=a:=by rw[Cb A0,Au A0]
 have P:(a++Z.drop 18).drop 36=Z.drop 36:=by rw[Eu,Bc A0,I,Je,Dt]
 rw[T,P];have D:(a++b).length=36:=by simp[I,X]
 have B:(a++b++Z.drop 36).take 36=a++b:=by rw[Cb A0,Au A0]
 have U:(a++b++Z.drop 36).drop 54=[]:=Bc (by simp[I,X,d]);rw[B,U,if_pos A0,if_pos (by simp[I,d]),if_pos (by simp[I,X,d]),Bx,Dg]
theorem EV(J:∀i,IJ (v.at i))(H:aA):Sg 189 [.agg (cG v)] H (.ret (.agg (c3 fun i=>cI (v.at i)))) H:=by refine Sp bIa Zae ZaT ?_ H;unfold aVw;dsimp only;have h:∀H,Sg 59 [.int .i64 v.x] H (.ret (.agg (cI v.x))) H:=yO (J 0).1 (J 0).2;have o1:∀H,Sg 59 [.int .i64 v.y] H (.ret (.agg (cI v.y))) H:=yO (J 1).1 (J 1).2;have o2:∀H,Sg 59 [.int .i64 v.z] H (.ret (.agg (cI v.z))) H:=yO (J 2).1 (J 2).2;refine bP ?_;refine Ty ?_;refine fW ?_;refine Dz ?_;simp only[↓zP,zJ,seval,zD,AR,cG,sW];refine gH (h _) ?_;simp only[↓zP,zJ,seval,zD,AR];refine gH (o1 _) ?_;simp only[↓zP,zJ,seval,zD,AR];refine gH (o2 _) ?_;simp only[↓zP,zJ,seval,zD];rw[aEz (gG fun _ _=>cC 0) (cC _) (cC _) (cC _)];have a:cI v.x++(cI v.y++cI v.z)=c3 fun i=>cI (v.at i):=rfl;rw[a];have U:(c3 fun i=>cI (v.at i)).length=54:=gG fun _ _=>cC _;have s:(c3 fun _=>cI 0).length=54:=gG fun _ _=>cC _;simp only[zJ,seval,zD,oL U,oL s];refine bQ ?_;refine Tx ?_;refine⟨rfl,_,by simp only[↓zP,zR,seval,oL U];rfl,?_⟩;rfl
theorem aTr{x y:Int}(C:x.natAbs<2^31)(Q:y.natAbs<2^31):(x*y).natAbs<2^62:=by
 exact ZcB
theorem Nb{a b c d:Int}(I:a.natAbs<2^31)(X:b.natAbs<2^31)(R:c.natAbs<2^31)(hd:d.natAbs<2^31)(H:aA):Sg 245 [.agg (cI a),.agg (cI b),.agg (cI c),.agg (cI d)] H (.ret (.agg (cI (a*b -c*d)))) H:=by refine Sp bJh Zaj Zav ?_ H;unfold aXc;dsimp only;have C:=wM I X;have Y:=wM R hd;have K:=jl (aTr I X) (aTr R hd);generalize a*b=p at *;generalize c*d=q at *;refine bP ?_;refine Ty ?_;refine fW ?_;refine Dz ?_;refine Wz ?_;refine bQ ?_;refine Tx ?_;refine Rx ?_;rfl
theorem Ow(c:Nat->List AV)(h:∀i,i<3->(c i).length=18):(c3 c).length=54/\(c3 c).take 18=c 0/\((c3 c).drop 18).take 18=c 1/\((c3 c).drop 36).take 18=c 2:=
 ⟨gG h,qR h (i:=0) A1,qR h (i:=1) A1,qR h (i:=2) A1⟩
variable{w:aC.V}
theorem aAn(J:bN A v)(L:bN B w)(n:A<2^31)(S:B<2^31)(b:3*(A*B)<2^62)(H:aA):Sg 269 [.agg (c3 fun i=>cI (v.at i)),.agg (c3 fun i=>cI (w.at i))] H (.ret (.agg (cI (aC.dot v w)))) H:=by refine Sp bJv Za8 Zav ?_ H;unfold aXq;dsimp only;have a:=fun i=>bN.c J i;have bw:=fun i=>bN.c L i;have D:=bZ J.1 L.1;have p:=bZ J.2.1 L.2.1;have o:=bZ J.2.2 L.2.2;have M:∀H,Sg 173 [.agg (cI (v.at 0)),.agg (cI (w.at 0))] H (.ret (.agg (cI (v.x*w.x)))) H:=wM (by have :=a 0;omega) (by have :=bw 0;omega);have C:∀H,Sg 173 [.agg (cI (v.at 1)),.agg (cI (w.at 1))] H (.ret (.agg (cI (v.y*w.y)))) H:=wM (by have :=a 1;omega) (by have :=bw 1;omega);have Y:∀H,Sg 173 [.agg (cI (v.at 2)),.agg (cI (w.at 2))] H (.ret (.agg (cI (v.z*w.z)))) H:=wM (by have :=a 2;omega) (by have :=bw 2;omega);have a1:=JW (x:=v.x*w.x) (y:=v.y*w.y) A0 A0;have Q:=JW (x:=v.x*w.x+v.y*w.y) (y:=v.z*w.z) A0 A0;have e:v.x*w.x+v.y*w.y+v.z*w.z=aC.dot v w:=rfl;rw[e] at Q;have X:=Ow (fun i=>cI (v.at i)) (fun i _=>cC _);have R:=Ow (fun i=>cI (w.at i)) (fun i _=>cC _);refine bP ?_;refine Ty ?_;refine fW ?_;refine Wz ?_;refine fW ?_;refine Dz ?_;refine Wz ?_;refine fW ?_;refine Dz ?_;refine Wz ?_;refine bQ ?_;refine Tx ?_;refine Rx ?_;rfl
theorem Yf(J:bN A v)(L:bN B w)(n:A<2^31)(S:B<2^31)(H:aA):Sg 188 [.agg (c3 fun i=>cI (v.at i)),.agg (c3 fun i=>cI (w.at i))] H (.ret (.agg (c3 fun i=>cI ((aC.aY v w).at i)))) H:=by refine Sp bHz Za8 ZaT ?_ H;unfold aVv;dsimp only;have a:=fun i=>bN.c J i;have bw:=fun i=>bN.c L i;have M:∀H,Sg 245 [.agg (cI (v.at 1)),.agg (cI (w.at 2)),.agg (cI (v.at 2)),.agg (cI (w.at 1))] H (.ret (.agg (cI ((aC.aY v w).at 0)))) H:=Nb (by have :=a 1;omega) (by have :=bw 2;omega) (by have :=a 2;omega) (by have :=bw 1;omega);have C:∀H,Sg 245 [.agg (cI (v.at 2)),.agg (cI (w.at 0)),.agg (cI (v.at 0)),.agg (cI (w.at 2))] H (.ret (.agg (cI ((aC.aY v w).at 1)))) H:=Nb (by have :=a 2;omega) (by have :=bw 0;omega) (by have :=a 0;omega) (by have :=bw 2;omega);have Y:∀H,Sg 245 [.agg (cI (v.at 0)),.agg (cI (w.at 1)),.agg (cI (v.at 1)),.agg (cI (w.at 0))] H (.ret (.agg (cI ((aC.aY v w).at 2)))) H:=Nb (by have :=a 0;omega) (by have :=bw 1;omega) (by have :=a 1;omega) (by have :=bw 0;omega);generalize aC.aY v w=u at *;have X:=Ow (fun i=>cI (v.at i)) (fun i _=>cC _);have R:=Ow (fun i=>cI (w.at i)) (fun i _=>cC _);have U:(c3 fun i=>cI (u.at i)).length=54:=gG fun _ _=>cC _;have s:(c3 fun _=>cI 0).length=54:=gG fun _ _=>cC _;refine bP ?_;simp only[↓zP,zJ,seval,sW];refine fW ?_;refine Dz ?_;simp only[↓zP,zJ,seval,zD,AR,X,R,sW];refine gH (M _) ?_;simp only[↓zP,zJ,seval,zD,AR,X,R];refine gH (C _) ?_;simp only[↓zP,zJ,seval,zD,AR,X,R];refine gH (Y _) ?_;simp only[↓zP,zJ,seval,zD];rw[aEz (gG fun _ _=>cC 0) (cC _) (cC _) (cC _)];have b:cI (u.at 0)++(cI (u.at 1)++cI (u.at 2))=c3 fun i=>cI (u.at i):=rfl;rw[b];simp only[zJ,seval,zD,oL U,oL s];refine bQ ?_;refine Tx ?_;refine⟨rfl,_,by simp only[↓zP,zR,seval,oL U];rfl,?_⟩;rfl
theorem aQl(J:bN A v)(L:bN B w)(n:A<2^31)(S:B<2^31)(M:3*(A*B)<2^62)(H:aA):Sg 215 [.agg (cG v),.agg (cG w)] H (.ret (.agg (cI (aC.dot v w)))) H:=by
 have a:∀i,IJ (v.at i):=fun i=>by have :=bN.c J i;unfold IJ;omega
 have b:∀i,IJ (w.at i):=fun i=>by have :=bN.c L i;unfold IJ;omega
 refine Sp bIo Zae Zav ?_ H;unfold aWj;dsimp only;refine bP ?_;refine Ty ?_;refine fW ?_;refine Dz ?_;have :=oL (aT v);have :=EV a;have :=oL (aT w);have :=EV b;have :=aAn J L n S M;refine Wz ?_;refine bQ ?_;refine Tx ?_;exact ZaD
theorem aAm(J:bN A v)(L:bN B w)(n:A<2^31)(S:B<2^31)(H:aA):Sg 99 [.agg (cG v),.agg (cG w)] H (.ret (.agg (c3 fun i=>cI ((aC.aY v w).at i)))) H:=by
 have a:∀i,IJ (v.at i):=fun i=>by have :=bN.c J i;unfold IJ;omega
 have b:∀i,IJ (w.at i):=fun i=>by have :=bN.c L i;unfold IJ;omega
 refine Sp bRd Zae ZaT ?_ H;unfold W99;dsimp only;have U:(c3 fun i=>cI ((aC.aY v w).at i)).length=54:=gG fun _ _=>cC _;have s:(c3 fun _=>cI 0).length=54:=gG fun _ _=>cC _;refine bP ?_;simp only[↓zP,zJ,seval,sW];refine fW ?_;refine Dz ?_;have :=oL (aT v);have :=EV a;have :=oL (aT w);have :=EV b;have :=Yf J L n S;have :=oL U;have :=oL s;refine Wz ?_;refine bQ ?_;refine Tx ?_;refine⟨rfl,_,by simp only[↓zP,zR,seval,oL U];rfl,?_⟩;rfl
end Go.Proofs.YtogfcjbgeebfkaaGreatDoor
