/-
  Part of the proof of statement 13
-/
import Derived.Test.YtogfcjbgeebfkaaGreatDoorB15
import Derived.Test.YtogfcjbgeebfkaaGreatDoorB16
import Derived.Test.YtogfcjbgeebfkaaGreatDoorB11
import Derived.Test.YtogfcjbgeebfkaaGreatDoorB12
import Derived.Test.YtogfcjbgeebfkaaGreatDoorB06
import Derived.Test.YtogfcjbgeebfkaaGreatDoorB13
import Derived.Test.YtogfcjbgeebfkaaGreatDoorB07
set_option linter.unusedVariables false
set_option maxRecDepth 100000
set_option linter.unusedSimpArgs false
set_option maxHeartbeats 16000000
namespace Go.Proofs.YtogfcjbgeebfkaaGreatDoor
open Go Go.Av Go.aH
attribute [local congr] aZ aQ aR aL bD aU aS aG bE
attribute [local irreducible] FC bS eE
def cX(L:aH.V×Int->List Nat)(q:aH.V×Int):List AV:=[.int .i64 q.1.x,.int .i64 q.1.y,.int .i64 q.1.z,.int .i64 q.2,.bK 0 1 (xV (L q))]
theorem rQ(L:aH.V×Int->List Nat)(q:aH.V×Int):cP (cX L q)=true:=by simp only[cX,cP,AV.free,IU,Dm];rfl
structure wB (l:List aH.V) (S:List (aH.V×Int)) (L:aH.V×Int->List Nat):Prop where
 fl:pS (fun i=>l.getD i V0) l.length S
 po:∀q∈S,Poly (fun i=>l.getD i V0) l.length q.1 q.2 (L q)
theorem rS{l:List aH.V}{M:Nat}(U:∀v∈l,bT M v){q:aH.V×Int}(h:oR (fun i=>l.getD i V0) l.length q.1 q.2):bT (2*((M+M)*(M+M))) q.1:=by
 obtain⟨i,j,k,O,Z,B,R⟩:=iB h
 have A:∀k,k<l.length->bT M (l.getD k V0):=fun k E=>by
  have :l.getD k V0=l[k]:=by simp[List.getD,E]
  rw[this];exact U _ (Ag E)
 have key:bT (2*((M+M)*(M+M))) (fW (fun i=>l.getD i V0) i j k).1:=
  uE (iM (gT (A j A0) (A i A0)) (gT (A k A0) (A i A0)))
 unfold jM at R;split at R
 . cases R
 simp only[Ba,Cn,Fg] at R
 rcases R with e|e
 . have T:q.1=(fW (fun i=>l.getD i V0) i j k).1:=Al Prod.fst e;rw[T];exact key
 have T:q.1=aH.neg (fW (fun i=>l.getD i V0) i j k).1:=Al Prod.fst e;rw[T];exact Lh key
theorem NR{p:Nat->aH.V}{N:Nat}{S:List (aH.V×Int)}(h:pS p N S):S.Nodup:=Gx (fun {a b} (h:jC a.1 b.1) (e:a=b)=>jC.nv b.1 Zbk) h.SL
theorem EP{tag:Nat}(W:Nat.blt tag 2=true){l:List aH.V}{M:Nat}(U:∀v∈l,bT M v)(g:M<=2^18)(Q:l.length<=64){S:List (aH.V×Int)}{L:aH.V×Int->List Nat}(w:wB l S L)(s:S≠[])(H:aB):
 Sg 182 [.agg [.bK tag 3 (bU l)]] H (.ret (.bK (H.next+2) 5 (S.map (cX L)))) (H.alloc .tok):=by
 refine ER dZ Zav ZbL (dQ (rQ L) S) ?_ H;refine bZ fit bHn (Ab rfl) ?_;unfold aVf;dsimp only;refine bP ?_;refine Ty ?_;refine fQ ?_;refine Tz ?_;refine bQ ?_
 have Y:S.length<=2^20:=by have O:=yR (N:=l.length) (p:=fun i=>l.getD i V0) (NR w.fl) (fun q D=>(w.fl.mem q).1 D);have Z:l.length*(l.length*(l.length*2))<=64*(64*(64*2)):=Az Q (Az Q (Az Q (Ad _)));omega
 have vD:lT 4 (S.map nI)=.bK 0 4 (S.map nI):=if_neg ZbL;have d:=Tc W U g Q w.fl;rw[vD] at d;refine aP fun K hK=>?_;refine bP ?_;refine Wy ?_;refine bQ ?_;refine bR [3] (fun i vs H'=>∃v,vs=[v]/\Own H' 5 v ((S.take i).map (cX L))/\H'.get 0=some (.cells [.bK tag 3 (bU l)] false)/\1<=H'.next) S.length A0 A1 ?_ ?_ ?_ ?_ ?_
 . exact zq
 . simp only[zB,seval,Ah]
 . exact ZaA
 . rintro i f H1 F E T ⟨v,J,ho,g0,A⟩;simp only[zM] at J;have hg:(S.map nI).getD i []=nI S[i]:=fT F;have h:=Ag F;have D:=rS U ((w.fl.mem _).1 h);have c:=w.po _ h
   have t:(S.take (i+1)).map (cX L)=(S.take i).map (cX L)++[cX L S[i]]:=by rw[Ao,Cg];simp[F]
   rw[t];have C:((S.take i).map (cX L)).length=i:=Zag;generalize S[i]=q at *;have j:(M+M)*(M+M)<=2^19*2^19:=Az A0 A0;have o:2*((M+M)*(M+M))*M<=2^39*2^18:=Az A0 A0;have X:(nI q).length=4:=rfl;have P:(nI q).take 3=cS q.1:=rfl;have p1:(nI q).getD 3 aC=.int .i64 q.2:=rfl;have u:¬(0=H1.next):=A0;have a:=Qt W U g Q D A0 c;have xy:=ho;refine aM ?_;refine bP ?_;simp only[↓zP,zJ,seval,T,E 8 rfl,aI,Ah,F,hg,oL X];refine bQ ?_;generalize hX:(H1.alloc _).set H1.next _=G;have e:G.get 0=some (.cells [.bK tag 3 (bU l)] false):=ZbY;have m:=Kz hX;have un:G.next=H1.next+1:=by subst hX;simp only[aB.bB,aB.bJ]
   have R:Own G 5 v ((S.take i).map (cX L)):=by refine vL ho A0 fun k O Z=>?_;subst hX;rw[aB.aD,if_neg A0,aB.aJ,if_neg A0];exact Z
   clear hX;obtain⟨H5,n,z2,b,r,B⟩:=Has.push (.inr R) (ys:=[cX L q]) (bytes:=56) rfl (by rw[C,As,Bo];omega);generalize H1.next=r1 at *;refine Dz ?_;have :=E 1 rfl;refine Wy ?_;have I:[AV.int .i64 q.1.x,.int .i64 q.1.y,.int .i64 q.1.z,.int .i64 q.2,.bK 0 1 (xV (L q))]=cX L q:=rfl;have AE:(cX L q).length=5:=rfl;simp only[↓zP,zJ,seval,zD,e,m,cS,I,AE];rw[show ∀x:List AV,dM G 5 (.bK 1 5 [x])=some [x] from fun _=>rfl];simp only[n,bV,seval];exact⟨by omega,_,rfl,.inr ⟨G.next,rfl,by omega,b⟩,(r 0 A0 (by rw[e];simp)).trans e,by omega⟩
 rintro f H1 E ⟨v,J,ho,g0,A⟩;simp only[zM] at J;rw[Ap] at ho;refine Tx ?_;apply hK;refine Wy ?_;refine Rx ?_;exact⟨v,rfl,ho⟩
end Go.Proofs.YtogfcjbgeebfkaaGreatDoor
namespace Go.Proofs.YtogfcjbgeebfkaaGreatDoor
open Go Go.Av Go.iW
attribute [local congr] aZ aQ aR aL bD aU aS aG bE
attribute [local irreducible] FC bS eE
def JV(z:Int):Prop:= -2^63<=z/\z<2^63
theorem JV.fit{z:Int}(h:JV z):z.natAbs<W^16:=by
 have O:(2:Nat)^64<W^16:=by decide
 have :=h.1;have :=h.2;omega
variable{v:aH.V}
theorem BA(J:∀i,JV (v.at i))(H:aB):Sg 243 [.agg (cS v)] H (.ret (.agg (c3 fun i=>cI (v.at i)))) H:=by
 refine Sp aSp Zae ZaQ ?_ H;unfold aLd;dsimp only;simp only[↓zP,zJ,seval,BN,oL (aW v)];refine fE [] (fun i _ H'=>H'.get 1=some (.cells (c3 fun j=>if j<i then cI (v.at j) else cI 0) false)) 3 A1 rfl A1 ?_ ?_ ?_ ?_
 . exact zq
 . simp only[seval,zI,Am]
 . rintro i f H F E T g;have U:∀j,j<3->(if j<i then cI (v.at j) else cI 0).length=18:=fun j _=>by split<;>exact cL _
   refine aM ?_;simp only[↓zP,zJ,seval,T,E 5 rfl,aI,F,aW,show i+1<=3 by omega,iY v F];refine eI (uP (J i).1 (J i).2 _) ?_;simp only[↓zP,zJ,seval,E 2 rfl,aI,F,g,gY U,show i*18+18<=54 by omega];rw[aDe U F (cL _)]
   exact Al (fun l=>some (eS.cells l false)) (KL fun j _=>by
    by_cases h:j=i
    . subst h;rw[if_pos rfl,if_pos A0]
    rw[if_neg h];by_cases Z:j<i
    . rw[if_pos Z,if_pos A0]
    rw[if_neg Z,if_neg A0])
 rintro f H E g;have e:(c3 fun j=>if j<3 then cI (v.at j) else cI 0)=c3 fun i=>cI (v.at i):=KL fun j Y=>if_pos Y;rw[e] at g;have U:∀j,j<3->(cI (v.at j)).length=18:=fun j _=>cL _;simp only[↓zP,zJ,seval,E 2 rfl,g,oL (gY U)];exact⟨rfl,_,by simp only[↓zP,zR,seval,E 2 rfl,oL (gY U)];rfl,rfl⟩
variable{a:Nat->List AV}{x:Nat->Option Int}
theorem aQm{b:Nat->List AV}{y:Nat->Option Int}(I:∀i,i<3->eJ (a i) (x i))(X:∀i,i<3->eJ (b i) (y i))(H:aB):Sg 244 [.agg (c3 a),.agg (c3 b)] H (.ret (.agg (cO (smO x y 3)))) H:=by
 have G:∀i,i<3->(a i).length=18:=fun i F=>(I i F).len;have j:∀i,i<3->(b i).length=18:=fun i F=>(X i F).len;refine So aSq Zbz ?_ H;unfold aLe;dsimp only;have :=uP (z:=0) A1 A1;refine Wz ?_;refine fE [] (fun i _ H'=>H'.get 0=some (.cells (c3 a) false)/\H'.get 1=some (.cells (c3 b) false)/\H'.get 2=some (.cells (.bool false::.bool false::wC zs) false)/\H'.get 3=some (.cells (cO (smO x y i)) false)) 3 A1 rfl A1 ?_ ?_ ?_ ?_
 . exact zq
 . simp only[seval,zI];exact⟨trivial,trivial,trivial,rfl⟩
 . rintro i f H F E T ⟨g0,g,e,U⟩;refine aM ?_;refine bP ?_;refine Wz ?_;refine bQ ?_;refine Dz ?_;simp only[↓zP,zJ,seval,zD,E 5 rfl,E 2 rfl,E 3 rfl,aI,F,g0,g,U,gY G,gY j,tG G F,tG j F,show i*18+18<=54 by omega];refine gV (xD (I i F) (X i F) _) ?_;simp only[seval];refine gV (xB (eJ.sm (x:=x) (y:=y) i) (eJ.mul (x:=x i) (y:=y i)) _) ?_;simp only[↓zP,zJ,seval,zD,E 5 rfl,U];exact⟨g0,g,e,rfl⟩
 rintro f H E ⟨g0,g,e,U⟩;simp only[↓zP,zJ,seval,E 5 rfl,E 4 rfl,e,U];exact⟨rfl,_,by simp only[↓zP,zR,seval,E 4 rfl];rfl,rfl⟩
theorem aAz{b:Nat->List AV}{y:Nat->Option Int}(I:∀i,i<3->eJ (a i) (x i))(X:∀i,i<3->eJ (b i) (y i))(H:aB):Sg 242 [.agg (c3 a),.agg (c3 b)] H (.ret (.agg (c3 fun i=>cO (Zq x y i)))) H:=by
 have G:∀i,i<3->(a i).length=18:=fun i F=>(I i F).len;have c:∀i,i<3->(b i).length=18:=fun i F=>(X i F).len;refine Sp bJa Zbz (by simp only[sf];exact lB fun i _=>KU _) ?_ H;unfold aWr;dsimp only;simp only[↓zP,zJ,seval,BN];refine fE [] (fun i _ H'=>H'.get 0=some (.cells (c3 a) false)/\H'.get 1=some (.cells (c3 b) false)/\H'.get 2=some (.cells (c3 fun j=>if j<i then cO (Zq x y j) else cI 0) false)) 3 A1 rfl A1 ?_ ?_ ?_ ?_
 . exact zq
 . simp only[zJ,seval,Am]
 . rintro i f H F E T ⟨g0,g,d⟩
   have U:∀j,j<3->(if j<i then cO (Zq x y j) else cI 0).length=18:=fun j _=>by split<;>first|exact cL _|exact mG _
   have w1:IntKind.i64.wrap ((i:Int)+1)=((i+1:Nat):Int):=(by rw[wrap_i64 A0 A0];simp);have w2:IntKind.i64.wrap ((i:Int)+2)=((i+2:Nat):Int):=(by rw[wrap_i64 A0 A0];simp);have R:((i+1:Nat):Int).tmod 3=(((i+1)%3:Nat):Int):=rfl;have k:((i+2:Nat):Int).tmod 3=(((i+2)%3:Nat):Int):=rfl;have b1:(i+1)%3<3:=Bz _ A1;have b2:(i+2)%3<3:=Bz _ A1;refine aM ?_;refine bP ?_;refine Wz ?_;refine fQ ?_;refine Wz ?_;refine bQ ?_;have p1:(i+1)%3*18+18<=54:=A0;have p2:(i+2)%3*18+18<=54:=A0;refine Dz ?_;simp only[↓zP,zJ,seval,zD,E 2 rfl,E 3 rfl,aI,b1,b2,p1,p2,g0,g,gY G,gY c,tG G b1,tG c b2];refine gV (xD (I _ b1) (X _ b2) _) ?_;simp only[↓zP,zJ,seval,zD,E 2 rfl,E 3 rfl,aI,b1,b2,p1,p2,g0,g,gY G,gY c,tG G b2,tG c b1];refine gV (xD (I _ b2) (X _ b1) _) ?_;simp only[seval];refine gV (ZX (eJ.mul (x:=x ((i+1)%3)) (y:=y ((i+2)%3))) (eJ.mul (x:=x ((i+2)%3)) (y:=y ((i+1)%3))) _) ?_;simp only[↓zP,zJ,seval,zD,E 4 rfl,d,F,aI,gY U,show i*18+18<=54 by omega];refine⟨g0,g,?_⟩;rw[aDe U F (mG _)]
   exact Al (fun l=>eS.cells l false) (KL fun j _=>by
    by_cases h:j=i
    . subst h;rw[if_pos rfl,if_pos A0];rfl
    rw[if_neg h];by_cases Z:j<i
    . rw[if_pos Z,if_pos A0]
    rw[if_neg Z,if_neg A0])
 rintro f H E ⟨g0,g,d⟩;have e:(c3 fun j=>if j<3 then cO (Zq x y j) else cI 0)=c3 fun i=>cO (Zq x y i):=KL fun j Y=>if_pos Y;rw[e] at d;have U:∀j,j<3->(cO (Zq x y j)).length=18:=fun j _=>mG _;simp only[↓zP,zJ,seval,E 4 rfl,d,oL (gY U)];exact⟨rfl,_,by simp only[↓zP,zR,seval,E 4 rfl,oL (gY U)];rfl,rfl⟩
theorem aBm{w:aH.V}(J:∀i,JV (v.at i))(L:∀i,JV (w.at i))(H:aB):Sg 185 [.agg (cS v),.agg (cS w)] H (.ret (.agg (cO (smO (fun i=>some (v.at i)) (fun i=>some (w.at i)) 3)))) H:=by
 have I:∀i,i<3->eJ (cI (v.at i)) (some (v.at i)):=fun i _=>.enc (JV.fit (J i));have X:∀i,i<3->eJ (cI (w.at i)) (some (w.at i)):=fun i _=>.enc (JV.fit (L i));refine So aSh Zae ?_ H;unfold aKv;dsimp only;refine Ty ?_;refine Dz ?_;have :=oL (aW v);have :=BA J;have :=oL (aW w);have :=BA L;have :=aQm I X;refine Wz ?_
 (refine Rx ?_;rfl)
theorem aBj{w:aH.V}(J:∀i,JV (v.at i))(L:∀i,JV (w.at i))(H:aB):Sg 184 [.agg (cS v),.agg (cS w)] H (.ret (.agg (c3 fun i=>cO (Zq (fun i=>some (v.at i)) (fun i=>some (w.at i)) i)))) H:=by have I:∀i,i<3->eJ (cI (v.at i)) (some (v.at i)):=fun i _=>.enc (JV.fit (J i));have X:∀i,i<3->eJ (cI (w.at i)) (some (w.at i)):=fun i _=>.enc (JV.fit (L i));have U:∀j,j<3->(cO (Zq (fun i=>some (v.at i)) (fun i=>some (w.at i)) j)).length=18:=fun j _=>mG _;have s:∀j:Nat,j<3->(cI 0).length=18:=fun j _=>cL _;refine Sp bHp Zae (by simp only[sf];exact lB fun i _=>KU _) ?_ H;unfold aVh;dsimp only;simp only[↓zP,zJ,seval,BN];refine Dz ?_;have :=oL (aW v);have :=BA J;have :=oL (aW w);have :=BA L;have :=aAz I X;have :=oL (gY U);have :=oL (gY s);refine Wz ?_;exact⟨rfl,_,by simp only[↓zP,zR,seval,oL (gY U)];rfl,rfl⟩
theorem yl(I:∀i,i<3->eJ (a i) (x i))(H:aB):Sg 73 [.agg (c3 a)] H (.ret (.agg (cS ⟨(fU (x 0)).1,(fU (x 1)).1,(fU (x 2)).1⟩))) H:=by
 have G:∀i,i<3->(a i).length=18:=fun i F=>(I i F).len;refine Sp bLb (by simp only[sf,lB fun i F=>(I i F).free]) Zae ?_ H;unfold W73;dsimp only;refine Ty ?_;refine fE [] (fun i _ H'=>H'.get 0=some (.cells (c3 a) false)/\H'.get 1=some (.cells [.int .i64 0,.int .i64 0,.int .i64 0] false)/\H'.get 2=some (.cells ([0,1,2].map fun j=>if j<i then .int .i64 (fU (x j)).1 else .int .i64 0) false)) 3 A1 rfl A1 ?_ ?_ ?_ ?_
 . exact zq
 . simp only[zJ,seval,Am]
 . rintro i f H F E T ⟨g0,g,e⟩;refine aM ?_;simp only[↓zP,zJ,seval,T,E 1 rfl,aI,F,g0,gY G,tG G F,show i*18+18<=54 by omega];refine eI (yJ (I i F) _) ?_;simp only[↓zP,zJ,seval,E 3 rfl,e,aI,F,show i+1<=3 by omega];refine⟨g0,g,?_⟩
   match i,F with
   |0,_=>rfl
   |1,_=>rfl
   |2,_=>rfl
 rintro f H E ⟨g0,g,e⟩;simp only[↓zP,zJ,seval,E 3 rfl,E 2 rfl,g,e];exact⟨rfl,_,by simp only[↓zP,zR,seval,E 2 rfl];rfl,rfl⟩
end Go.Proofs.YtogfcjbgeebfkaaGreatDoor
namespace Go.Proofs.YtogfcjbgeebfkaaGreatDoor
open Go Go.Av Go.aH
attribute [local congr] aZ aQ aR aL bD aU aS aG bE
attribute [local irreducible] FC bS eE
variable{tag:Nat}{l:List aH.V}
theorem Yv(Q:l.length<2^30){id r:Nat}{o:Bool}(I:Nat->aB->Prop)(J:∀i H H',Over H H'->I i H->I i H')
 (B:∀i (F:i<l.length) H,I i H->∃H',mS Tryz.prog gv id [.agg (cS l[i])] H (.ret (.bool true)) H'/\I (i+1) H') {H:aB} (e:H.get r=some (.cells [.bK tag 3 (bU l)] o)) (G:I 0 H):
 ∃H',I l.length H'/\Sg 324 [.yield id,.ref r 0] H (.ret (.iV [])) H':=by
 suffices h:∃out H',(out=.ret (.iV [])/\I l.length H')/\Sg 324 [.yield id,.ref r 0] H out H' by obtain⟨_,H',⟨rfl,t⟩,w⟩:=h;exact⟨H',t,w⟩
 refine bZ fit aSz (Ab rfl) ?_;unfold aLn;dsimp only;refine bP ?_;simp only[↓zP,zJ,seval,e];refine bQ ?_;refine bR [] (fun i vs H'=>I i H') l.length A0 A1 ?_ ?_ ?_ ?_ ?_
 . exact zq
 . exact Zbw
 . exact G
 . rintro i f H1 F E T b;have d:=cG F;have M:=B i F;generalize l[i]=x at *;refine aM ?_;simp only[↓zP,zJ,seval,T,E 5 rfl,E 0 rfl,aI,aX,F,d,oL (aW x)];obtain⟨H',c,a⟩:=M _ (J i _ _ (((Over.refl H1).alloc (.cells [.int .i64 0,.int .i64 0,.int .i64 0] false)).set (Ad _) (.cells (cS x) false)) b);refine uN A1 (by rfl) (by rfl) c ?_;refine Ty ?_;exact a
 rintro f H1 E b;refine⟨rfl,_,by simp only[zR,seval];rfl,?_⟩;exact⟨rfl,b⟩
def MR(H:aB)(lo:Nat)(v:AV)(l:List aH.V):Prop:=
 (l=[]/\v=.bG)\/∃p,l≠[]/\v=.sl p 3 0 l.length l.length/\H.get p=some (.cells (bU l).flatten true)/\lo<=p/\p<H.next
variable{H:aB}{lo:Nat}{v:AV}
theorem MR.push(h:MR H lo v l)(i:lo<=H.next)(Q:l.length<2^20)(x:aH.V):
 ∃q H',fM H 3 24 true v [cS x]=some (q,H')/\MR H' lo q (l++[x])/\H'.next=H.next+1/\∀j,j<lo->H'.get j=H.get j:=by
 rcases h with ⟨rfl,rfl⟩|⟨p,s,rfl,d,O,Z⟩
 . refine⟨_,_,CN rfl A3,.inr ⟨H.next,by simp,rfl,by rw[aB.aJ,if_pos rfl];rfl,i,by simp⟩,by simp,fun j Y=>by grind[aB.aJ]⟩
 have T:(bU l).flatten.length=l.length*3:=by rw[pU (sz:=3) (fun e z=>?_),aX];obtain⟨x,_,rfl⟩:=Be.1 z;rfl
 refine⟨_,_,CO d T rfl (by grind) A1,.inr ⟨H.next,by simp,by simp,?_,i,by simp⟩,by simp,fun j Y=>by grind[aB.aJ,aB.bB,aB.aD]⟩;rw[aB.aJ,aB.bB,if_pos rfl];simp[bU]
theorem MR.over{H':aB}(h:MR H lo v l)(S:Over H H'):MR H' lo v l:=by
 rcases h with h|⟨p,G,O,Z,B,h4⟩
 . exact .inl h
 exact .inr ⟨p,G,O,(S.same _ h4).trans Z,B,Au h4 S.le⟩
theorem UA(Q:l.length<=64){r:Nat}{o:Bool}{H:aB}(n:r<H.next)(hr:H.get r=some (.cells [.bK tag 3 (bU l)] o)):
 ∃H' v,Over H H'/\MR H' H.next v l/\Sg 350 [.bG,.func (.func 324) [] [.ref r 0]] H (.ret v) H':=by
 suffices h:∃out H',(∃v,out=.ret v/\Over H H'/\MR H' H.next v l)/\Sg 350 [.bG,.func (.func 324) [] [.ref r 0]] H out H' by obtain⟨_,H',⟨v,rfl,O,Z⟩,w⟩:=h;exact⟨H',v,O,Z,w⟩
 refine qH fit aTa (Ab rfl) ?_;unfold aLo;dsimp only;refine bP ?_;refine Ty ?_;refine bQ ?_;refine aP fun K hK=>?_;refine bP ?_;refine Ty ?_;refine bQ ?_
 have WG:nH 13 (jF (jF (jF (dY [.bG,.func (.func 324) [] [.ref r 0]]) 2 (.ref H.next 0)) 4 .bG) 6 (.func (.func 324) [] [.ref r 0])):=
  ((((sB (Ab rfl)).1.jF A1 _).jF A1 _).jF A1 _)
 have k:(jF (jF (jF (dY [.bG,.func (.func 324) [] [.ref r 0]]) 2 (.ref H.next 0)) 4 .bG) 6 (.func (.func 324) [] [.ref r 0])) 2=.ref H.next 0:=rfl;have ae:(jF (jF (jF (dY [.bG,.func (.func 324) [] [.ref r 0]]) 2 (.ref H.next 0)) 4 .bG) 6 (.func (.func 324) [] [.ref r 0])) 6=.func (.func 324) [] [.ref r 0]:=rfl;generalize jF (jF (jF (dY [.bG,.func (.func 324) [] [.ref r 0]]) 2 (.ref H.next 0)) 4 .bG) 6 (.func (.func 324) [] [.ref r 0])=f at *;refine aM ?_;refine uL (by rw[iG];exact ae) ?_;simp only[aB.bJ];generalize A:HU.mk [7] _ _=key
 let I:Nat->aB->Prop:=fun i H'=>Over H H'/\H.next+3<=H'.next/\H'.get (H.next+1)=some .AN/\H'.get (H.next+2)=some (.loop key (LF 13 f) .ready)/\∃v,H'.get H.next=some (.cells [v] false)/\MR H' (H.next+3) v (l.take i)
 have J:∀i H1 H2,Over H1 H2->I i H1->I i H2:=fun i H1 H2 S ⟨w1,w2,R,C,v,m,U⟩=>⟨⟨Aw w1.le S.le,fun j Y=>(S.same j A0).trans (w1.same j Y)⟩,Aw w2 S.le,(S.same _ A0).trans R,(S.same _ A0).trans C,v,(S.same _ A0).trans m,U.over S⟩
 have G:I 0 (((H.alloc (.cells [.bG] false)).alloc .AN).alloc (.loop key (LF 13 f) .ready)):=
  ⟨(((Over.refl H).alloc _).alloc _).alloc _,by simp,by simp[aB.aJ],by simp[aB.aJ],.bG,by simp[aB.aJ];omega,.inl ⟨by simp,rfl⟩⟩
 have eX:∀i (F:i<l.length) H1,I i H1->∃H',mS Tryz.prog gv (H.next+1+1) [.agg (cS l[i])] H1 (.ret (.bool true)) H'/\I (i+1) H':=by
  rintro i F H1 ⟨w1,w2,R,C,v,m,U⟩;have t:l.take (i+1)=l.take i++[l[i]]:=by rw[Ao];simp[F]
  have ag:(l.take i).length=i:=by simp;omega
  generalize l[i]=x at *
  suffices h:∃H',UN Tryz.prog gv 13 key f (H.next+1+1) [.agg (cS x)] H1 (.ret (.bool true)) H'/\I (i+1) H' by obtain⟨H',hr,hI⟩:=h;exact⟨H',Za fit WG C ZaO hr,hI⟩
  have D:Over H1 ((H1.alloc (.cells [.int .i64 0,.int .i64 0,.int .i64 0] false)).set H1.next (.cells (cS x) false)):=((Over.refl H1).alloc _).set (Ad _) _;have gx:((H1.alloc (.cells [.int .i64 0,.int .i64 0,.int .i64 0] false)).set H1.next (.cells (cS x) false)).get H1.next=some (.cells (cS x) false):=by rw[aB.aD,if_pos rfl]
  have gn:((H1.alloc (.cells [.int .i64 0,.int .i64 0,.int .i64 0] false)).set H1.next (.cells (cS x) false)).next=H1.next+1:=by simp
  have af:∀(HA:aB) (z:eS),Over H1 HA->HA.get H1.next=some (.cells (cS x) false)->HA.next=H1.next+1->∃q M,fM (HA.set (H.next+1+1) z) 3 24 true v [cS x]=some (q,M)/\MR M (H.next+3) q (l.take (i+1))/\M.next=HA.next+1/\∀j,j<H.next+3->M.get j=(HA.set (H.next+1+1) z).get j:=fun HA z o1 o2 o3=>by
   have :MR (HA.set (H.next+1+1) z) (H.next+3) v (l.take i):=by
    rcases U with h|⟨p,q0,q1,q2,q3,q4⟩
    . exact .inl h
    exact .inr ⟨p,q0,q1,by rw[aB.aD,if_neg A0,o1.same _ q4];exact q2,q3,by rw[aB.bB];omega⟩
   obtain⟨q,M,O,Z,B,h4⟩:=this.push (by rw[aB.bB];omega) A0 x;exact⟨q,M,O,by rw[t];exact Z,B,h4⟩
  have a7:=(D.same (H.next+2) A0).trans C;have a6:=(D.same H.next A0).trans m;have ab:=(D.same (H.next+1) A0).trans R;have ad:Over H ((H1.alloc (.cells [.int .i64 0,.int .i64 0,.int .i64 0] false)).set H1.next (.cells (cS x) false)):=⟨Aw w1.le D.le,fun j Y=>(D.same j A0).trans (w1.same j Y)⟩;obtain⟨q,M,p1,p2,p3,X⟩:=af _ (.loop key (LF 13 f) .busy) D gx gn
  obtain⟨T,s,g,sd,se,rfl⟩:∃a b c d e,q=.sl a b c d e:=by
   rcases p2 with ⟨h,_⟩|⟨p,_,h,_⟩
   . rw[t] at h;simp at h
   exact⟨_,_,_,_,_,h⟩
  refine⟨(M.set H.next (.cells [.sl T s g sd se] false)).set (H.next+1+1) (.loop key (LF 13 f) .ready),?_,?_⟩
  . subst A;unfold UN;dsimp only[List.zip,List.zipWith,oE,gJ]
    have Rw:FC Tryz.prog gv 13 (.ops [⟨some 5,.alloc [.int .i64 0,.int .i64 0,.int .i64 0],none⟩,⟨none,.store 3 (.tmp 5) (.tmp 7),none⟩]) (jF f 7 (.agg (cS x))) [] H1 (fun e u N E=>e=.normal/\u=jF (jF f 7 (.agg (cS x))) 5 (.ref H1.next 0)/\N=[]/\E=(H1.alloc (.cells [.int .i64 0,.int .i64 0,.int .i64 0] false)).set H1.next (.cells (cS x) false)):=by simp only[↓zP,zJ,seval,oL (aW x)]
    refine jJ (fun e u N E h=>?_) Rw;obtain⟨rfl,rfl,rfl,rfl⟩:=h;refine⟨rfl,_,_,a7,?_⟩;generalize (H1.alloc (.cells [.int .i64 0,.int .i64 0,.int .i64 0] false)).set H1.next (.cells (cS x) false)=HA at *;refine aM ?_;have n1:¬(H.next=H.next+1+1):=A0;have n2:¬(H1.next=H.next+1+1):=A0;have W:=(X H.next A0).trans ((by rw[aB.aD,if_neg A0]:_=HA.get H.next).trans a6);have pl:=(X (H.next+1+1) A0).trans ZaK;simp only[↓zP,zJ,seval,k,a6,gx,n1,n2,oL (aW x)];rw[eL];simp only[p1,bV,zJ,seval,W];exact⟨rfl,rfl,_,_,by rw[aB.aD,if_neg A0];exact pl,rfl⟩
  have pn:H1.next<=M.next:=by omega
  refine⟨⟨by simp only[aB.bB];have :=w1.le;omega,fun j Y=>?_⟩,by simp only[aB.bB];omega,?_,?_,.sl T s g sd se,?_,?_⟩
  . rw[aB.aD,if_neg A0,aB.aD,if_neg A0,X j A0,aB.aD,if_neg A0];exact ad.same j Y
  . rw[aB.aD,if_neg A0,aB.aD,if_neg A0,X _ A0,aB.aD,if_neg A0];exact ab
  . exact ZaK
  . rw[aB.aD,if_neg A0,aB.aD,if_pos rfl]
  rcases p2 with h|⟨p,q0,q1,q2,q3,q4⟩
  . exact .inl h
  exact .inr ⟨p,q0,q1,by rw[aB.aD,if_neg A0,aB.aD,if_neg A0];exact q2,q3,by simp only[aB.bB];omega⟩
 obtain⟨y,⟨w1,w2,R,C,v,m,U⟩,w⟩:=Yv (tag:=tag) (o:=o) A0 I J eX (r:=r) (by rw[aB.aJ,if_neg Zag,aB.aJ,if_neg Zag,aB.aJ,if_neg A0];exact hr) G
 refine⟨_,y,_,_,_,w,C,fun L hf=>?_⟩;obtain⟨u,P⟩:=hf;show K f [.mark (H.next+1)] L;apply hK;clear hK K;have b0:L.get H.next=some (.cells [v] false):=by rw[P,if_neg A0];exact m
 have b1:L.get (H.next+1)=some .AN:=by rw[P,if_neg A0];exact R
 simp only[↓zP,zJ,seval,k,b0];rw[Ap] at U;refine⟨b1,[v],rfl,v,rfl,⟨by rw[aB.bB,u];exact w1.le,fun j Y=>by rw[aB.aD,if_neg A0,P,if_neg A0];exact w1.same j Y⟩,?_⟩
 rcases U with h|⟨p,q0,q1,q2,q3,q4⟩
 . exact .inl h
 exact .inr ⟨p,q0,q1,by rw[aB.aD,if_neg A0,P,if_neg A0];exact q2,by omega,by rw[aB.bB,u];exact q4⟩
def aQl(p q:aH.V):Int:=orZ [xJ p.x q.x,xJ p.y q.y,xJ p.z q.z]
theorem PE(p q:aH.V):aQl p q<0↔jC p q:=EB (p,0) (q,0)
theorem ru(p q:aH.V)(H:aB):Sg 292 [.agg (cS p),.agg (cS q)] H (.ret (.int .i64 (aQl p q))) H:=by
 refine So bKd Zae ?_ H;unfold aXu;dsimp only;refine bP ?_;refine Ty ?_;refine fQ ?_;refine Dz ?_;simp only[↓zP,zJ,seval,zD,cS,AH];refine gV (kQ p.x q.x _) ?_;simp only[↓zP,zJ,seval,zD,AH];refine gV (kQ p.y q.y _) ?_;simp only[↓zP,zJ,seval,zD,AH];refine gV (kQ p.z q.z _) ?_;simp only[↓zP,zJ,seval,zD];have s:=aBy [xJ p.x q.x,xJ p.y q.y,xJ p.z q.z] A3;simp only[LN,sm] at s;refine Wz ?_;refine bQ ?_;refine Tx ?_
 (refine Rx ?_;rfl)
def vV(q:aH.V):ES 3:=⟨[q.x,q.y,q.z],rfl⟩
def JT(x:ES 3):aH.V:=⟨x.1.getD 0 0,x.1.getD 1 0,x.1.getD 2 0⟩
theorem Vx(x:ES 3):vV (JT x)=x:=by
 obtain⟨l,U⟩:=x
 match l,U with
 |[a,b,c],_=>rfl
theorem kz(q:aH.V):XG (vV q)=cS q:=rfl
theorem Vl:∀S:List aH.V,(oN (S.map vV)).map (AV.int .i64)=(bU S).flatten
 |[]=>rfl
 |q::S=>by have :=Vl S;simp only[oN,Bw,El,Cg,Cb,bU] at this ⊢;rw[this];rfl
theorem bSo:Go.Sort.SWO (Go.Proofs.ltOf fun x y:ES 3=>aQl (JT x) (JT y)) where
 irrefl x:=by simp only[Go.Proofs.ltOf,PE,Cd];exact jC.nv _
 trans x y z h1 h2:=by simp only[Go.Proofs.ltOf,PE,Bs] at *;exact jC.trans h1 h2
 ntrans x y z h1 h2:=by simp only[Go.Proofs.ltOf,PE,Cd] at *;unfold jC at *;omega
theorem VZ:CI Tryz.prog 323:=⟨_,Tryz.func323,by kernel_rfl,by kernel_rfl⟩
theorem aJa(d:List (ES 3))(hd:d.length<4611686018427387904):
 ∃d':List (ES 3),d'.Perm d/\(d'.Pairwise fun a b=>¬aQl (JT b) (JT a)<0)/\∀(H:aB) (id:Nat) (r:Bool),H.get id=some (.cells ((oN d).map (AV.int .i64)) r)->
  Sg 323 [.sl id 3 0 d.length d.length,.func (.func 292) [] []] H (.ret (.iV [])) (H.set id (.cells ((oN d').map (AV.int .i64)) r)):=
 ID (fun _=>rfl) Tryz.aIz A1 Tryz.isAgg33 Tryz.sizeOf33 rfl VZ (ru V0 V0 ⟨0,.nil⟩).1 bSo (fun x y=>by
  have :=ru (JT x) (JT y) ⟨0,.nil⟩
  rwa [<-kz,<-kz,Vx,Vx] at this) d hd
theorem tw(l:List aH.V)(H:aB):Sg 291 [.bK tag 3 (bU l)] H (.ret (.func (.func 324) [] [.ref H.next 0])) (H.alloc (.cells [.bK tag 3 (bU l)] false)):=by refine oS aSv (Ab rfl) ?_;unfold aLj;dsimp only;refine Ty ?_;refine Rx ?_;exact⟨rfl,rfl⟩
theorem ZP(Q:l.length<=64){r:Nat}{o:Bool}{H:aB}(n:r<H.next)(a:H.get r=some (.cells [.bK tag 3 (bU l)] o)):
 ∃H' v,Over H H'/\MR H' H.next v l/\Sg 322 [.func (.func 324) [] [.ref r 0]] H (.ret v) H':=by
 obtain⟨H',v,O,Z,w⟩:=UA Q n a;refine⟨H',v,O,Z,?_⟩;refine oS aSy (Ab rfl) ?_;unfold aLm;dsimp only;refine Wz ?_;refine Rx ?_;exact Za1
theorem Rh(Q:l.length<=64){r:Nat}{o:Bool}{H:aB}(n:r<H.next)(c:H.get r=some (.cells [.bK tag 3 (bU l)] o)):
 ∃H' v S,S.Perm l/\(S.Pairwise fun a b=>¬jC b a)/\Over H H'/\MR H' H.next v S/\Sg 290 [.func (.func 324) [] [.ref r 0],.func (.func 292) [] []] H (.ret v) H':=by
 obtain⟨H1,v,O,Z,w⟩:=ZP Q n c
 rcases Z with ⟨rfl,rfl⟩|⟨p,s,rfl,d,i,A⟩
 . refine⟨H1,.bG,[],.refl _,.nil,O,.inl ⟨rfl,rfl⟩,?_⟩;refine oS aFq (Ab rfl) ?_;unfold aCr;dsimp only;refine Ty ?_;refine eI (w) ?_;refine Ty ?_;refine eI (nN Tryz.aIz rfl VZ 292 _) ?_;refine Tz ?_;refine Rx ?_;exact Za1
 obtain⟨d',q1,q2,q3⟩:=aJa (l.map vV) (by simp only[Ah];omega);have W:H1.get p=some (.cells ((oN (l.map vV)).map (AV.int .i64)) true):=by rw[d,Vl]
 have R:=q3 H1 p true W;rw[Ah] at R;have T:d'=(d'.map JT).map vV:=by rw[Ea];exact(Dk (g:=id) (fun x _=>Vx x)).trans (Gn d') |>.symm
 rw[T,Vl] at R
 have m:(d'.map JT).Perm l:=by
  have O:=q1.map JT
  rwa [Ea,show(JT∘vV)=id from rfl,Gn] at O
 have U:=m.length_eq;refine⟨H1.set p (.cells (bU (d'.map JT)).flatten true),.sl p 3 0 (d'.map JT).length (d'.map JT).length,d'.map JT,m,?_,⟨by rw[aB.bB];exact O.le,fun j Y=>?_⟩,.inr ⟨p,fun h=>s (Cl (by rw[<-U,h];rfl)),rfl,?_,i,by rw[aB.bB];exact A⟩,?_⟩
 . rw[Ev];exact q2.imp fun h Z=>h ((PE _ _).2 Z)
 . rw[aB.aD,if_neg A0];exact O.same j Y
 . exact ZaK
 rw[U];refine oS aFq (Ab rfl) ?_;unfold aCr;dsimp only;refine Ty ?_;refine eI (w) ?_;refine Ty ?_;refine eI (R) ?_;refine Tz ?_;refine Rx ?_;exact Za1
def dd(l:List aH.V):Nat->List aH.V
 |0=>[]
 |j+1=>dd l j++(if 0<j/\l.getD j V0=l.getD (j -1) V0 then [] else [l.getD j V0])
theorem aRd(l:List aH.V):∀j,(dd l j).length<=j
 |0=>Ad _
 |j+1=>by
  have :=aRd l j
  grind[dd,List.length_append]
theorem LO(R:List aH.V):(bU R).flatten.length=R.length*3:=by rw[pU (sz:=3) (fun e z=>?_),aX];obtain⟨x,_,rfl⟩:=Be.1 z;rfl
theorem QN:∀{R:List aH.V} {p:Nat} (h:p<R.length),((bU R).flatten.drop (p*3)).take 3=cS R[p]
 |x::R,0,_=>rfl
 |x::R,p+1,h=>by have :=QN (R:=R) (p:=p) (by grind);simp only[List.getElem_cons_succ,<-this,Bn,Fh];rfl
theorem QO:∀{R:List aH.V} {p:Nat} (h:p<R.length) (x:aH.V),gH (bU R).flatten (p*3) (cS x)=(bU (R.set p x)).flatten
 |y::R,0,_,x=>rfl
 |y::R,p+1,h,x=>by
  have :=QO (R:=R) (p:=p) (by simpa using h) x;simp only[List.set_cons_succ];simp only[gH,bU,Bw,Cb,aW] at this ⊢;rw[<-this];have e:(p+1)*3=(p*3)+1+1+1:=by omega
  rw[e];simp only[cS,Fe,Cw,Ft,Gj]
theorem Xo:∀(R:List aH.V) (p:Nat),(bU R).flatten.take (p*3)=(bU (R.take p)).flatten
 |[],p=>by simp[bU]
 |x::R,0=>by rfl
 |x::R,p+1=>by
  have :=Xo R p;simp only[bU,Bw,Cb,Ft] at this ⊢
  grind[cS]
theorem Ng:∀m:Nat,cP (List.replicate m [AV.int .i64 0,.int .i64 0,.int .i64 0]).flatten=true
 |0=>rfl
 |m+1=>by exact Ng m
theorem aBf(m:Nat):(List.replicate m [AV.int .i64 0,.int .i64 0,.int .i64 0]).flatten.length=m*3:=by simp
theorem oU(v w:aH.V):cE [.i,.i,.i] (cS v) (cS w)=some (decide (v=w)):=by
 obtain⟨a,b,c⟩:=v;obtain⟨s,k,I⟩:=w;simp only[cS,cE,if_true,Cq,V.mk.injEq,Ig];congr 1
 grind
theorem ZQ(Q:l.length<=64){id:Nat}{H:aB}(an:id<H.next)(d:H.get id=some (.cells (bU l).flatten true)):
 ∃H' rest,H'.get id=some (.cells ((bU (dd l l.length)).flatten++rest) true)/\cP rest=true/\H'.next=H.next/\(∀j,j≠id->H'.get j=H.get j)/\
  Sg 293 [.sl id 3 0 l.length l.length] H (.ret (.sl id 3 0 (dd l l.length).length l.length)) H':=by
 suffices h:∃out H',(out=.ret (.sl id 3 0 (dd l l.length).length l.length)/\∃rest,H'.get id=some (.cells ((bU (dd l l.length)).flatten++rest) true)/\cP rest=true/\H'.next=H.next/\(∀j,j≠id->H'.get j=H.get j))/\
  Sg 293 [.sl id 3 0 l.length l.length] H out H' by
  obtain⟨_,H',⟨rfl,rest,h1,Z,h3,h4⟩,w⟩:=h;exact⟨H',rest,h1,Z,h3,h4,w⟩
 refine bZ fit aSw (Ab rfl) ?_;unfold aLk;dsimp only;have c:∀k (h:k<l.length),l.getD k V0=l[k]:=fun k h=>by simp[List.getD,h]
 have same:dd l l.length=l->(∃rest,H.get id=some (.cells ((bU (dd l l.length)).flatten++rest) true)/\cP rest=true/\H.next=H.next/\(∀j,j≠id->H.get j=H.get j)):=fun h=>⟨[],by rw[h,Bx];exact d,rfl,rfl,fun _ _=>rfl⟩
 refine bP ?_;simp only[↓zP,zG,Nat.reduceLT];refine bQ ?_;refine aP fun K hK=>?_;refine Wy ?_;refine⟨fun Z=>?_,fun Z=>?_⟩
 . refine Rx ?_
   have hd:dd l l.length=l:=by
    match l,Z with
    |[],_=>rfl
    |[a],_=>simp[dd]
    |a::b::r,h=>simp at h;omega
   exact⟨by rw[hd];rfl,same hd⟩
 apply hK;clear hK K;have O:2<=l.length:=by omega
 refine aP fun K hK=>?_;simp only[↓zP,zG,Nat.reduceLT];refine aM ?_;refine jW [3] (fun M vs H'=>∃k,1<=k/\k<=l.length/\M=l.length -k/\vs=[.int .i64 (k:Nat)]/\H'=H/\dd l k=l.take k) (l.length -1) (by rfl) ?_ ?_
 . refine⟨1,Ad _,by omega,rfl,rfl,rfl,?_⟩
   match l,O with
   |a::r,_=>simp[dd]
 rintro I f H1 E ⟨k,k1,k2,rfl,J,rfl,D⟩;simp only[zM] at J;refine aP fun L dJ=>?_;simp only[↓zP,zJ,Nat.reduceLT,Nat.reduceEqDiff,J,E 0 rfl];refine⟨fun eZ=>?_,fun Oj=>?_⟩
 . apply dJ;clear dJ L;have x:k<l.length:=by omega
   have a7:k -1<l.length:=A0;have w1:IntKind.i64.wrap ((k:Int) -1)=((k -1:Nat):Int):=(wrap_i64 A0 A0).trans A0;have fl:=LO l;have ak:=QN x;have ar:=QN a7
   have B:dd l (k+1)=l.take k++(if l[k]=l[k -1] then [] else [l[k]]):=by simp only[dd,D,c k x,c (k -1) a7];simp[show 0<k by omega]
   refine aP fun L dJ=>?_;refine aM ?_;refine bP ?_;refine Dz ?_;have ck:k*3+3<=l.length*3:=A0;have aq:(k -1)*3+3<=l.length*3:=A0;have :=E 0 rfl;have := @oU;refine Ww ?_;refine bQ ?_;by_cases z:l[k]=l[k -1]
   . have X:=Af z
     have g:nA 3 (.sl id 3 0 l.length l.length) (some k) none none=some (.sl id 3 (0+k*3) (l.length -k) (l.length -k)):=by simp only[nA,By,Du,Ke];rw[if_pos A0,if_pos A0,if_neg A0]
     simp only[↓zP,zJ,Nat.reduceLT,Nat.reduceEqDiff,Nat.reduceAdd,X,J,E 0 rfl,eD,aI,g,Ci];refine aM ?_;rw[if_pos z,Bx] at B
     refine jW [3,5] (fun M vs H'=>∃kk k2 R,1<=k2/\k+k2<=l.length/\M=l.length -(k+k2)/\vs=[.int .i64 (kk:Nat),.int .i64 (k2:Nat)]/\kk<=k+k2 -1/\R.length=l.length/\R.take kk=dd l (k+k2)/\kk=(dd l (k+k2)).length/\(∀p,k+k2 -1<=p->p<l.length->R[p]?=l[p]?)/\
      H'.get id=some (.cells (bU R).flatten true)/\H'.next=H1.next/\∀j,j≠id->H'.get j=H1.get j) (l.length -(k+1)) (by rfl) ?_ ?_
     . refine⟨k,1,l,Ad _,by omega,rfl,?_,by omega,rfl,B.symm,by rw[B];simp;omega,fun p _ _=>rfl,d,rfl,fun _ _=>rfl⟩;simp only[sm,zB,Nat.reduceEqDiff,J];rfl
     rintro I f2 H2 N ⟨kk,k2,R,r1,r2,rfl,q,r3,r4,r5,r6,P,r8,r9,W⟩;simp only[zM] at q;obtain⟨s,C⟩:=q;refine aP fun F U=>?_
     have w0:decide (((k2:Nat):Int)<((l.length -k:Nat):Int))=decide (k+k2<l.length):=by rw[Bj];omega
     have Ut:=aRd l (k+k2);simp only[↓zP,zJ,Nat.reduceLT,Nat.reduceEqDiff,C,N 4 rfl];refine⟨fun eZ=>?_,fun Oj=>?_⟩
     . apply U;clear U F;have Y:k+k2<l.length:=A0;have a6:k+k2<R.length:=A0;have ab:k+k2 -1<R.length:=A0;have aj:=QN a6;have ae:=QN ab
       have ej:R[k+k2]=l[k+k2]:=by have :=P (k+k2) A0 Y;rw[Ai a6,Ai Y] at this;exact Aa this
       have ag:R[k+k2 -1]=l[k+k2 -1]:=by have :=P (k+k2 -1) (Ad _) A0;rw[Ai ab,Ai (show k+k2 -1<l.length by omega)] at this;exact Aa this
       rw[ej] at aj;rw[ag] at ae
       have Mp:dd l (k+k2+1)=dd l (k+k2)++(if l[k+k2]=l[k+k2 -1] then [] else [l[k+k2]]):=by simp only[dd,c (k+k2) Y,c (k+k2 -1) A0];simp[show 0<k+k2 by omega]
       have w1:IntKind.i64.wrap ((k2:Int) -1)=((k2 -1:Nat):Int):=(wrap_i64 A0 A0).trans A0;have w2:IntKind.i64.wrap ((k2:Int)+1)=((k2+1:Nat):Int):=(wrap_i64 A0 A0).trans A0;have w3:IntKind.i64.wrap ((kk:Int)+1)=((kk+1:Nat):Int):=(wrap_i64 A0 A0).trans A0;have u:k*3+k2*3=(k+k2)*3:=A0;have G:k*3+(k2 -1)*3=(k+k2 -1)*3:=A0;have fR:=LO R;have e:(k+k2)*3+3<=R.length*3:=A0;have y:(k+k2 -1)*3+3<=R.length*3:=A0;have S:kk*3+3<=R.length*3:=A0;have n:k2<l.length -k:=A0;have z2:k2 -1<l.length -k:=A0;have z3:kk<l.length:=A0;refine aP fun F U=>?_;refine aM ?_;refine bP ?_;refine Dz ?_;simp only[↓zP,zJ,Nat.reduceLT,Nat.reduceEqDiff,Nat.reduceAdd,zD,reduceCtorEq,C,N 4 rfl,aI,n,z2,r8,w1,u,G,fR,e,y,aj,ae,oU];refine bQ ?_;by_cases i:l[k+k2]=l[k+k2 -1]
       . have o:(!decide (l[k+k2]=l[k+k2 -1]))=false:=(by simp[i]);simp only[↓zP,zG,o];apply U;clear U F;simp only[↓zP,zJ,Nat.reduceLT,Nat.reduceEqDiff,C,s,w2];rw[if_pos i,Bx] at Mp;refine⟨_,by omega,kk,k2+1,R,by omega,by omega,rfl,rfl,by omega,r4,by rw[<-Bm,Mp];exact r5,by rw[<-Bm,Mp];exact r6,fun p p1 p2=>P p A0 p2,r8,r9,W⟩
       have o:(!decide (l[k+k2]=l[k+k2 -1]))=true:=(by simp[i]);have ad:=QO (R:=R) (p:=kk) A0 l[k+k2];simp only[gH] at ad;simp only[↓zP,zJ,Nat.reduceLT,Nat.reduceEqDiff,o,C,s,N 4 rfl,N 0 rfl,E 0 rfl,aI,n,z3,r8,u,fR,e,S,aj,w3,oL (aW l[k+k2])];apply U;clear U F;simp only[↓zP,zJ,Nat.reduceLT,Nat.reduceEqDiff,C,w2];rw[if_neg i] at Mp;refine⟨_,by omega,kk+1,k2+1,R.set kk l[k+k2],by omega,by omega,rfl,rfl,by omega,by rw[Il];exact r4,?_,?_,fun p p1 p2=>?_,by rw[<-ad];rfl,r9,fun j Y=>?_⟩
       . rw[<-Bm,Mp,<-r5,Ao,List.take_set_of_le (Ad _)];simp[show kk<R.length by omega]
       . rw[<-Bm,Mp,Aq,<-r6];rfl
       . rw[List.getElem?_set_ne A0];exact P p A0 p2
       rw[if_neg Y];exact W j Y
     have T:k+k2=l.length:=A0;obtain⟨m,t⟩:∃m,l.length -kk=m+1:=⟨l.length -kk -1,by omega⟩
     have A:nA 3 (.sl id 3 0 l.length l.length) (some kk) none none=some (.sl id 3 (kk*3) (m+1) (m+1)):=by simp only[nA,By,Du,Ke];rw[if_pos A0,if_pos A0,if_neg A0,t,Ds]
     have af:nA 3 (.sl id 3 0 l.length l.length) none (some kk) none=some (.sl id 3 0 kk l.length):=by simp only[nA,By,Du,Ke];rw[if_pos A0,if_pos A0,if_neg A0];simp
     have fR:=LO R;have v:kk*3+(m+1)*3<=R.length*3:=A0;simp only[↓zP,zJ,Nat.reduceEqDiff,s,N 0 rfl,E 0 rfl,aI,A,af,r8,fR,v,Ci,Bg];rw[T] at r5 r6;rw[Xo,r5,Di];refine Rx ?_;refine⟨by rw[<-r6];rfl,_,by rw[aB.aD,if_pos rfl],?_,by rw[aB.bB];exact r9,fun j Y=>by rw[aB.aD,if_neg Y];exact W j Y⟩
     rw[jX,Ng,Bl (by rw[aBf,fR];omega)]
     rfl
   have X:=Ac z;simp only[↓zP,zG,X];apply dJ;clear dJ L;have w2:IntKind.i64.wrap ((k:Int)+1)=((k+1:Nat):Int):=(wrap_i64 A0 A0).trans A0;simp only[↓zP,zJ,Nat.reduceLT,Nat.reduceEqDiff,J,w2];refine⟨_,by omega,k+1,by omega,by omega,rfl,rfl,trivial,?_⟩;rw[B,if_neg z,Ao];simp[x]
 apply hK;clear hK K dJ L;have T:k=l.length:=by omega
 subst T;rw[Ap] at D;simp only[↓zP,zJ,Nat.reduceLT,Nat.reduceEqDiff,E 0 rfl];refine Rx ?_;exact⟨by rw[D];rfl,same D⟩
theorem Pk(l:List aH.V)(v:aH.V):∀j,j<=l.length->(v∈dd l j↔v∈l.take j)
 |0,_=>by simp[dd]
 |j+1,h=>by
  have K:=Pk l v j A0;have Y:j<l.length:=h;have d:l.getD j V0=l[j]:=by simp[List.getD,Y]
  rw[Ao,Ai Y];simp only[dd,Ar,K,d,Option.toList_some,Ba,Cn,Fg];split
  . rename_i R;obtain⟨G,z⟩:=R;have D:j -1<l.length:=by omega
    have w:l.getD (j -1) V0=l[j -1]:=(by simp[List.getD,D]);simp only[Cn,Fg];refine⟨.inl,fun h=>h.elim id fun e=>?_⟩;rw[e,z,w];exact List.mem_take_iff_getElem.2 ⟨j -1,by omega,rfl⟩
  simp
theorem Zy{l:List aH.V}(M:l.Pairwise fun a b=>¬jC b a):∀j,j<=l.length->(dd l j).Pairwise jC
 |0,_=>.nil
 |j+1,h=>by
  have K:=Zy M j A0;have Y:j<l.length:=h;have d:l.getD j V0=l[j]:=by simp[List.getD,Y]
  simp only[dd,d];split
  . rw[Bx];exact K
  rename_i R;rw[List.pairwise_append];refine⟨K,List.pairwise_singleton _ _,fun v J x C=>?_⟩;simp only[Ba,Cn,Fg] at C;subst C;rw[Pk l v j A0] at J;obtain⟨i,F,rfl⟩:=List.mem_take_iff_getElem.1 J;have H:i<j:=by omega
  have D:j -1<l.length:=by omega
  have w:l.getD (j -1) V0=l[j -1]:=by simp[List.getD,D]
  rw[w] at R;have s:l[j]≠l[j -1]:=fun e=>R ⟨by omega,e⟩;have m:=Ga.1 M;have p1:=m (j -1) j D Y A0;have p2:jC l[j -1] l[j]:=(jC.total s).elim (fun h=>absurd h p1) id;by_cases u:i=j -1
  . subst u;exact p2
  have P:=m i (j -1) A0 D A0;generalize l[i]=a at *;generalize l[j -1]=b at *;generalize l[j]=c at *;unfold jC at *;omega
structure Ord (l C:List aH.V):Prop where
 SL:C.Pairwise jC
 mem:∀v,v∈C↔v∈l
theorem Ord.uniq{C a:List aH.V}(h:Ord l C)(M:Ord l a):C=a:=
 EF (R:=jC) jC.nv (fun h M=>jC.trans h M) h.SL M.SL fun v=>(h.mem v).trans (M.mem v).symm
theorem Ord.of{S C:List aH.V}(m:S.Perm l)(M:S.Pairwise fun a b=>¬jC b a)(h:Ord l C):dd S S.length=C:=
 Ord.uniq (l:=l) ⟨Zy M _ (Ad _),fun v=>by rw[Pk S v _ (Ad _),Ap];exact m.mem_iff⟩ h
theorem NQ(H:aB):Sg 293 [.bG] H (.ret .bG) H:=by refine oS aSw (Ab rfl) ?_;unfold aLk;dsimp only;refine bP ?_;refine Tz ?_;refine bQ ?_;refine aP fun K hK=>?_;refine Ty ?_;refine⟨fun Z=>?_,fun Z=>absurd (show((0:Int)<2) by decide) (by simp at Z)⟩;refine Rx ?_;exact⟨rfl,rfl⟩
theorem Sf{sz:Nat}:∀{els:List (List AV)} (rest:List AV),(∀e∈els,e.length=sz)->gE sz els.length (els.flatten++rest)=els
 |[],_,_=>rfl
 |e::els,rest,h=>by have z:=h e Ay;simp only[As,gE,Cb,Di];rw[Ck A0,Bd A0,Em A0,Bl A0,Cw,Sf rest fun x C=>h x (Ax _ C)]
theorem aAs(W:Nat.blt tag 2=true){l C:List aH.V}(Q:l.length<=64)(u:Ord l C)(H:aB):
 Sg 252 [.bK tag 3 (bU l)] H (.ret (lT 3 (bU C))) H:=by
 refine fA fit dZ aSr (Ab rfl) Zav ?_ H;unfold aLf;dsimp only;obtain⟨H1,v,S,c,M,g,f,w⟩:=Rh (tag:=tag) Q (r:=0) (o:=false) (H:=(aB.mk 0 .nil).alloc (.cells [.bK tag 3 (bU l)] false)) A3 rfl;have D:=Ord.of c M u;have Y:=c.length_eq;refine Ty ?_;refine eI (tw (tag:=tag) l _) ?_;simp only[seval];refine eI (w) ?_
 rcases f with ⟨rfl,rfl⟩|⟨p,s,rfl,d,i,A⟩
 . refine Tz ?_;refine eI (NQ _) ?_;refine Tz ?_;refine Rx ?_;rw[<-D];exact⟨_,0,rfl,fun t=>rfl⟩
 obtain⟨H2,rest,I,X,c3,j,a⟩:=ZQ A0 A d;refine Tz ?_;refine eI (a) ?_;refine Tz ?_;refine Rx ?_;rw[D] at I ⊢
 have b:¬bU C=[]:=by
  intro h;have :C=[]:=by simpa [bU] using h
  rw[this] at D
  match S,s with
  |x::r,_=>have :=(Pk (x::r) x _ (Ad _)).2 A3;rw[D] at this;cases this
 refine⟨.sl p 3 0 C.length S.length,0,rfl,fun t=>?_⟩;have R:H2.eV p=some ((bU C).flatten++rest):=by simp[aB.eV,I]
 have B:∀e∈bU C,e.length=3:=fun e z=>by obtain⟨x,_,rfl⟩:=Be.1 z;rfl
 have m:Nat.ble (0+C.length*3) ((bU C).flatten++rest).length=true:=by rw[Aq,LO];exact Jy A0
 have n:cP ((bU C).flatten++rest)=true:=by rw[jX,jH (show fK (bU C)=true from dQ cD C),X];rfl
 rw[lT,if_neg b];simp only[iH,kK,R,Eo,m,n,Dx];rw[show C.length=(bU C).length from (aX C).symm,Sf rest B]
end Go.Proofs.YtogfcjbgeebfkaaGreatDoor
