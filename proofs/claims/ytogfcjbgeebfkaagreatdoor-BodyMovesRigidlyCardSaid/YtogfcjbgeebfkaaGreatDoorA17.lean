/-
  Part of the proof of statement 9
-/
import Derived.Test.YtogfcjbgeebfkaaGreatDoorA15
import Derived.Test.YtogfcjbgeebfkaaGreatDoorA16
import Derived.Test.YtogfcjbgeebfkaaGreatDoorA11
import Derived.Test.YtogfcjbgeebfkaaGreatDoorA12
import Derived.Test.YtogfcjbgeebfkaaGreatDoorA06
import Derived.Test.YtogfcjbgeebfkaaGreatDoorA13
import Derived.Test.YtogfcjbgeebfkaaGreatDoorA07
set_option linter.unusedSimpArgs false
set_option linter.unusedVariables false
set_option maxRecDepth 100000
set_option maxHeartbeats 16000000
namespace Go.Proofs.YtogfcjbgeebfkaaGreatDoor
open Go Go.Av Go.aC
attribute [local congr] aX aQ aR aL bA aW aS aG bB
attribute [local irreducible] FC bT eI
def cX(L:aC.V×Int->List Nat)(q:aC.V×Int):List AV:=[.int .i64 q.1.x,.int .i64 q.1.y,.int .i64 q.1.z,.int .i64 q.2,.bJ 0 1 (yL (L q))]
theorem rZ(L:aC.V×Int->List Nat)(q:aC.V×Int):cW (cX L q)=true:=by simp only[cX,cW,AV.free,JF,Dk];rfl
structure vJ (l:List aC.V) (S:List (aC.V×Int)) (L:aC.V×Int->List Nat):Prop where
 fl:oW (fun i=>l.getD i V0) l.length S
 po:∀q∈S,Poly (fun i=>l.getD i V0) l.length q.1 q.2 (L q)
theorem sA{l:List aC.V}{M:Nat}(U:∀v∈l,bN M v){q:aC.V×Int}(h:oM (fun i=>l.getD i V0) l.length q.1 q.2):bN (2*((M+M)*(M+M))) q.1:=by
 obtain⟨i,j,k,O,Z,W,R⟩:=iB h
 have A:∀k,k<l.length->bN M (l.getD k V0):=fun k E=>by
  have :l.getD k V0=l[k]:=by simp[List.getD,E]
  rw[this];exact U _ (Ac E)
 have key:bN (2*((M+M)*(M+M))) (fX (fun i=>l.getD i V0) i j k).1:=
  vD (iQ (gU (A j A0) (A i A0)) (gU (A k A0) (A i A0)))
 unfold jR at R;split at R
 . cases R
 simp only[Bd,Ci,Fe] at R
 rcases R with e|e
 . have T:q.1=(fX (fun i=>l.getD i V0) i j k).1:=Am Prod.fst e;rw[T];exact key
 have T:q.1=aC.neg (fX (fun i=>l.getD i V0) i j k).1:=Am Prod.fst e;rw[T];exact EK key
theorem No{p:Nat->aC.V}{N:Nat}{S:List (aC.V×Int)}(h:oW p N S):S.Nodup:=Gv (fun {a b} (h:iO a.1 b.1) (e:a=b)=>iO.o5 b.1 Zby) h.Ra
theorem FE{tag:Nat}(ht:Nat.blt tag 2=true){l:List aC.V}{M:Nat}(U:∀v∈l,bN M v)(g:M<=2^18)(Q:l.length<=64){S:List (aC.V×Int)}{L:aC.V×Int->List Nat}(u:vJ l S L)(cU:S≠[])(H:aA):
 Sg 182 [.agg [.bJ tag 3 (bR l)]] H (.ret (.bJ (H.next+2) 5 (S.map (cX L)))) (H.alloc .tok):=by
 refine FF eE Za1 (by simpa using cU) (dP (rZ L) S) ?_ H;refine dM fit bHu (Ai rfl) ?_;unfold aVq;dsimp only;refine bP ?_;refine Ty ?_;refine fW ?_;refine Tz ?_;refine bQ ?_
 have n:S.length<=2^20:=by have O:=zS (N:=l.length) (p:=fun i=>l.getD i V0) (No u.fl) (fun q D=>(u.fl.mem q).1 D);have Z:l.length*(l.length*(l.length*2))<=64*(64*(64*2)):=Be Q (Be Q (Be Q (Ae _)));omega
 have vX:mB 4 (S.map nJ)=.bJ 0 4 (S.map nJ):=if_neg (by simpa using cU);have X:=Tq ht U g Q u.fl;rw[vX] at X;refine aM fun K hK=>?_;refine bP ?_;refine Wy ?_;refine bQ ?_;refine bS [3] (fun i vs H'=>∃v,vs=[v]/\Own H' 5 v ((S.take i).map (cX L))/\H'.get 0=some (.cells [.bJ tag 3 (bR l)] false)/\1<=H'.next) S.length A0 A1 ?_ ?_ ?_ ?_ ?_
 . exact zq
 . simp only[zB,seval,Ah]
 . exact ZaC
 . rintro i f H1 F E T ⟨v,J,Y,g0,A⟩;simp only[zM] at J;have t:(S.map nJ).getD i []=nJ S[i]:=eO F;have h:=Ac F;have D:=sA U ((u.fl.mem _).1 h);have j:=u.po _ h
   have m:(S.take (i+1)).map (cX L)=(S.take i).map (cX L)++[cX L S[i]]:=by rw[Ao,Cd];simp[F]
   rw[m];have e:((S.take i).map (cX L)).length=i:=Zaf;generalize S[i]=q at *;have d:(M+M)*(M+M)<=2^19*2^19:=Be A0 A0;have s:2*((M+M)*(M+M))*M<=2^39*2^18:=Be A0 A0;have p4:(nJ q).length=4:=rfl;have p3:(nJ q).take 3=cG q.1:=rfl;have P:(nJ q).getD 3 aB=.int .i64 q.2:=rfl;have b:¬(0=H1.next):=A0;have I:=RJ ht U g Q D A0 j;have yy:=Y;refine aJ ?_;refine bP ?_;simp only[↓zP,zJ,seval,T,E 8 rfl,aD,Ah,F,t,oL p4];refine bQ ?_;generalize G:(H1.alloc _).set H1.next _=o;have W:o.get 0=some (.cells [.bJ tag 3 (bR l)] false):=Zcf;have B:=Kz G;have un:o.next=H1.next+1:=by subst G;simp only[aA.aZ,aA.bK]
   have R:Own o 5 v ((S.take i).map (cX L)):=by refine wK Y A0 fun k O Z=>?_;subst G;rw[aA.aH,if_neg A0,aA.aI,if_neg A0];exact Z
   clear G;obtain⟨r,z1,c,C,a,z5⟩:=Has.push (.inr R) (ys:=[cX L q]) (bytes:=56) rfl (by rw[e,Ba,Ca];omega);generalize H1.next=r1 at *;refine Dz ?_;have :=E 1 rfl;refine Wy ?_;have w:[AV.int .i64 q.1.x,.int .i64 q.1.y,.int .i64 q.1.z,.int .i64 q.2,.bJ 0 1 (yL (L q))]=cX L q:=rfl;have AU:(cX L q).length=5:=rfl;simp only[↓zP,zJ,seval,zD,W,B,cG,w,AU];rw[show ∀x:List AV,dJ o 5 (.bJ 1 5 [x])=some [x] from fun _=>rfl];simp only[z1,bX,seval];exact⟨by omega,_,rfl,.inr ⟨o.next,rfl,by omega,C⟩,(a 0 A0 (by rw[W];simp)).trans W,by omega⟩
 rintro f H1 E ⟨v,J,Y,g0,A⟩;simp only[zM] at J;rw[Aq] at Y;refine Tx ?_;apply hK;refine Wy ?_;refine Rx ?_;exact⟨v,rfl,Y⟩
end Go.Proofs.YtogfcjbgeebfkaaGreatDoor
namespace Go.Proofs.YtogfcjbgeebfkaaGreatDoor
open Go Go.Av Go.jG
attribute [local congr] aX aQ aR aL bA aW aS aG bB
attribute [local irreducible] FC bT eI
def IJ(z:Int):Prop:= -2^63<=z/\z<2^63
theorem IJ.fit{z:Int}(h:IJ z):z.natAbs<W^16:=by
 have O:(2:Nat)^64<W^16:=by decide
 have :=h.1;have :=h.2;omega
variable{v:aC.V}
theorem BS(J:∀i,IJ (v.at i))(H:aA):Sg 243 [.agg (cG v)] H (.ret (.agg (c3 fun i=>cI (v.at i)))) H:=by
 refine Sp aTe Zae ZaT ?_ H;unfold aLu;dsimp only;simp only[↓zP,zJ,seval,sW,oL (aT v)];refine cM [] (fun i _ H'=>H'.get 1=some (.cells (c3 fun j=>if j<i then cI (v.at j) else cI 0) false)) 3 A1 rfl A1 ?_ ?_ ?_ ?_
 . exact zq
 . simp only[seval,zI,Al]
 . rintro i f H F E T g;have U:∀j,j<3->(if j<i then cI (v.at j) else cI 0).length=18:=fun j _=>by split<;>exact cC _
   refine aJ ?_;simp only[↓zP,zJ,seval,T,E 5 rfl,aD,F,aT,show i+1<=3 by omega,iC v F];refine fC (qN (J i).1 (J i).2 _) ?_;simp only[↓zP,zJ,seval,E 2 rfl,aD,F,g,gG U,show i*18+18<=54 by omega];rw[Zx U F (cC _)]
   exact Am (fun l=>some (eG.cells l false)) (iJ fun j _=>by
    by_cases h:j=i
    . exact ZaE
    rw[if_neg h];by_cases Z:j<i
    . rw[if_pos Z,if_pos A0]
    rw[if_neg Z,if_neg A0])
 rintro f H E g;have e:(c3 fun j=>if j<3 then cI (v.at j) else cI 0)=c3 fun i=>cI (v.at i):=iJ fun j Y=>if_pos Y;rw[e] at g;have U:∀j,j<3->(cI (v.at j)).length=18:=fun j _=>cC _;simp only[↓zP,zJ,seval,E 2 rfl,g,oL (gG U)];exact⟨rfl,_,by simp only[↓zP,zR,seval,E 2 rfl,oL (gG U)];rfl,rfl⟩
variable{a:Nat->List AV}{x:Nat->Option Int}
theorem aRf{b:Nat->List AV}{y:Nat->Option Int}(I:∀i,i<3->dN (a i) (x i))(X:∀i,i<3->dN (b i) (y i))(H:aA):Sg 244 [.agg (c3 a),.agg (c3 b)] H (.ret (.agg (cO (smO x y 3)))) H:=by
 have p:∀i,i<3->(a i).length=18:=fun i F=>(I i F).len;have S:∀i,i<3->(b i).length=18:=fun i F=>(X i F).len;refine So aTf ZbN ?_ H;unfold aLv;dsimp only;have :=qN (z:=0) A1 A1;refine Wz ?_;refine cM [] (fun i _ H'=>H'.get 0=some (.cells (c3 a) false)/\H'.get 1=some (.cells (c3 b) false)/\H'.get 2=some (.cells (.bool false::.bool false::wC zs) false)/\H'.get 3=some (.cells (cO (smO x y i)) false)) 3 A1 rfl A1 ?_ ?_ ?_ ?_
 . exact zq
 . simp only[seval,zI];exact⟨trivial,trivial,trivial,rfl⟩
 . rintro i f H F E T ⟨g0,g,d,C⟩;refine aJ ?_;refine bP ?_;refine Wz ?_;refine bQ ?_;refine Dz ?_;simp only[↓zP,zJ,seval,zD,E 5 rfl,E 2 rfl,E 3 rfl,aD,F,g0,g,C,gG p,gG S,qR p F,qR S F,show i*18+18<=54 by omega];refine gH (tX (I i F) (X i F) _) ?_;simp only[seval];refine gH (tU (dN.sm (x:=x) (y:=y) i) (dN.mul (x:=x i) (y:=y i)) _) ?_;simp only[↓zP,zJ,seval,zD,E 5 rfl,C];exact⟨g0,g,d,rfl⟩
 rintro f H E ⟨g0,g,d,C⟩;simp only[↓zP,zJ,seval,E 5 rfl,E 4 rfl,d,C];exact⟨rfl,_,by simp only[↓zP,zR,seval,E 4 rfl];rfl,rfl⟩
theorem aBr{b:Nat->List AV}{y:Nat->Option Int}(I:∀i,i<3->dN (a i) (x i))(X:∀i,i<3->dN (b i) (y i))(H:aA):Sg 242 [.agg (c3 a),.agg (c3 b)] H (.ret (.agg (c3 fun i=>cO (bg x y i)))) H:=by
 have p:∀i,i<3->(a i).length=18:=fun i F=>(I i F).len;have S:∀i,i<3->(b i).length=18:=fun i F=>(X i F).len;refine Sp bJg ZbN (by simp only[sf];exact dZ fun i _=>LJ _) ?_ H;unfold aXb;dsimp only;simp only[↓zP,zJ,seval,sW];refine cM [] (fun i _ H'=>H'.get 0=some (.cells (c3 a) false)/\H'.get 1=some (.cells (c3 b) false)/\H'.get 2=some (.cells (c3 fun j=>if j<i then cO (bg x y j) else cI 0) false)) 3 A1 rfl A1 ?_ ?_ ?_ ?_
 . exact zq
 . simp only[zJ,seval,Al]
 . rintro i f H F E T ⟨g0,g,d⟩
   have U:∀j,j<3->(if j<i then cO (bg x y j) else cI 0).length=18:=fun j _=>by split<;>first|exact cC _|exact jU _
   have w1:IntKind.i64.wrap ((i:Int)+1)=((i+1:Nat):Int):=(by rw[wrap_i64 A0 A0];simp);have w2:IntKind.i64.wrap ((i:Int)+2)=((i+2:Nat):Int):=(by rw[wrap_i64 A0 A0];simp);have C:((i+1:Nat):Int).tmod 3=(((i+1)%3:Nat):Int):=rfl;have k:((i+2:Nat):Int).tmod 3=(((i+2)%3:Nat):Int):=rfl;have R:(i+1)%3<3:=Bz _ A1;have L:(i+2)%3<3:=Bz _ A1;refine aJ ?_;refine bP ?_;refine Wz ?_;refine fW ?_;refine Wz ?_;refine bQ ?_;have P:(i+1)%3*18+18<=54:=A0;have c:(i+2)%3*18+18<=54:=A0;refine Dz ?_;simp only[↓zP,zJ,seval,zD,E 2 rfl,E 3 rfl,aD,R,L,P,c,g0,g,gG p,gG S,qR p R,qR S L];refine gH (tX (I _ R) (X _ L) _) ?_;simp only[↓zP,zJ,seval,zD,E 2 rfl,E 3 rfl,aD,R,L,P,c,g0,g,gG p,gG S,qR p L,qR S R];refine gH (tX (I _ L) (X _ R) _) ?_;simp only[seval];refine gH (Ug (dN.mul (x:=x ((i+1)%3)) (y:=y ((i+2)%3))) (dN.mul (x:=x ((i+2)%3)) (y:=y ((i+1)%3))) _) ?_;simp only[↓zP,zJ,seval,zD,E 4 rfl,d,F,aD,gG U,show i*18+18<=54 by omega];refine⟨g0,g,?_⟩;rw[Zx U F (jU _)]
   exact Am (fun l=>eG.cells l false) (iJ fun j _=>by
    by_cases h:j=i
    . subst h;rw[if_pos rfl,if_pos A0];rfl
    rw[if_neg h];by_cases Z:j<i
    . rw[if_pos Z,if_pos A0]
    rw[if_neg Z,if_neg A0])
 rintro f H E ⟨g0,g,d⟩;have e:(c3 fun j=>if j<3 then cO (bg x y j) else cI 0)=c3 fun i=>cO (bg x y i):=iJ fun j Y=>if_pos Y;rw[e] at d;have U:∀j,j<3->(cO (bg x y j)).length=18:=fun j _=>jU _;simp only[↓zP,zJ,seval,E 4 rfl,d,oL (gG U)];exact⟨rfl,_,by simp only[↓zP,zR,seval,E 4 rfl,oL (gG U)];rfl,rfl⟩
theorem aCf{w:aC.V}(J:∀i,IJ (v.at i))(L:∀i,IJ (w.at i))(H:aA):Sg 185 [.agg (cG v),.agg (cG w)] H (.ret (.agg (cO (smO (fun i=>some (v.at i)) (fun i=>some (w.at i)) 3)))) H:=by
 have I:∀i,i<3->dN (cI (v.at i)) (some (v.at i)):=fun i _=>.enc (IJ.fit (J i));have X:∀i,i<3->dN (cI (w.at i)) (some (w.at i)):=fun i _=>.enc (IJ.fit (L i));refine So aSw Zae ?_ H;unfold aLm;dsimp only;refine Ty ?_;refine Dz ?_;have :=oL (aT v);have :=BS J;have :=oL (aT w);have :=BS L;have :=aRf I X;refine Wz ?_
 (refine Rx ?_;rfl)
theorem aCc{w:aC.V}(J:∀i,IJ (v.at i))(L:∀i,IJ (w.at i))(H:aA):Sg 184 [.agg (cG v),.agg (cG w)] H (.ret (.agg (c3 fun i=>cO (bg (fun i=>some (v.at i)) (fun i=>some (w.at i)) i)))) H:=by have I:∀i,i<3->dN (cI (v.at i)) (some (v.at i)):=fun i _=>.enc (IJ.fit (J i));have X:∀i,i<3->dN (cI (w.at i)) (some (w.at i)):=fun i _=>.enc (IJ.fit (L i));have U:∀j,j<3->(cO (bg (fun i=>some (v.at i)) (fun i=>some (w.at i)) j)).length=18:=fun j _=>jU _;have s:∀j:Nat,j<3->(cI 0).length=18:=fun j _=>cC _;refine Sp bHw Zae (by simp only[sf];exact dZ fun i _=>LJ _) ?_ H;unfold aVs;dsimp only;simp only[↓zP,zJ,seval,sW];refine Dz ?_;have :=oL (aT v);have :=BS J;have :=oL (aT w);have :=BS L;have :=aBr I X;have :=oL (gG U);have :=oL (gG s);refine Wz ?_;exact⟨rfl,_,by simp only[↓zP,zR,seval,oL (gG U)];rfl,rfl⟩
theorem Tl(I:∀i,i<3->dN (a i) (x i))(H:aA):Sg 73 [.agg (c3 a)] H (.ret (.agg (cG ⟨(fH (x 0)).1,(fH (x 1)).1,(fH (x 2)).1⟩))) H:=by
 have p:∀i,i<3->(a i).length=18:=fun i F=>(I i F).len;refine Sp bLa (by simp only[sf,dZ fun i F=>(I i F).free]) Zae ?_ H;unfold W73;dsimp only;refine Ty ?_;refine cM [] (fun i _ H'=>H'.get 0=some (.cells (c3 a) false)/\H'.get 1=some (.cells [.int .i64 0,.int .i64 0,.int .i64 0] false)/\H'.get 2=some (.cells ([0,1,2].map fun j=>if j<i then .int .i64 (fH (x j)).1 else .int .i64 0) false)) 3 A1 rfl A1 ?_ ?_ ?_ ?_
 . exact zq
 . simp only[zJ,seval,Al]
 . rintro i f H F E T ⟨g0,g,d⟩;refine aJ ?_;simp only[↓zP,zJ,seval,T,E 1 rfl,aD,F,g0,gG p,qR p F,show i*18+18<=54 by omega];refine fC (zA (I i F) _) ?_;simp only[↓zP,zJ,seval,E 3 rfl,d,aD,F,show i+1<=3 by omega];refine⟨g0,g,?_⟩
   match i,F with
   |0,_=>rfl
   |1,_=>rfl
   |2,_=>rfl
 rintro f H E ⟨g0,g,d⟩;simp only[↓zP,zJ,seval,E 3 rfl,E 2 rfl,g,d];exact⟨rfl,_,by simp only[↓zP,zR,seval,E 2 rfl];rfl,rfl⟩
end Go.Proofs.YtogfcjbgeebfkaaGreatDoor
namespace Go.Proofs.YtogfcjbgeebfkaaGreatDoor
open Go Go.Av Go.aC
attribute [local congr] aX aQ aR aL bA aW aS aG bB
attribute [local irreducible] FC bT eI
variable{tag:Nat}{l:List aC.V}
theorem ZL(Q:l.length<2^30){id r:Nat}{o:Bool}(I:Nat->aA->Prop)(A:∀i H H',Over H H'->I i H->I i H')
 (C:∀i (F:i<l.length) H,I i H->∃H',tY Tryz.prog gv id [.agg (cG l[i])] H (.ret (.bool true)) H'/\I (i+1) H') {H:aA} (c:H.get r=some (.cells [.bJ tag 3 (bR l)] o)) (d:I 0 H):
 ∃H',I l.length H'/\Sg 324 [.yield id,.ref r 0] H (.ret (.jS [])) H':=by
 suffices h:∃out H',(out=.ret (.jS [])/\I l.length H')/\Sg 324 [.yield id,.ref r 0] H out H' by obtain⟨_,H',⟨rfl,p⟩,u⟩:=h;exact⟨H',p,u⟩
 refine dM fit aTo (Ai rfl) ?_;unfold aMe;dsimp only;refine bP ?_;simp only[↓zP,zJ,seval,c];refine bQ ?_;refine bS [] (fun i vs H'=>I i H') l.length A0 A1 ?_ ?_ ?_ ?_ ?_
 . exact zq
 . exact ZbM
 . exact d
 . rintro i f H1 F E T J;have t:=cH F;have M:=C i F;generalize l[i]=x at *;refine aJ ?_;simp only[↓zP,zJ,seval,T,E 5 rfl,E 0 rfl,aD,aU,F,t,oL (aT x)];obtain⟨H',b,a⟩:=M _ (A i _ _ (((Over.refl H1).alloc (.cells [.int .i64 0,.int .i64 0,.int .i64 0] false)).set (Ae _) (.cells (cG x) false)) J);refine IG A1 (by rfl) (by rfl) b ?_;refine Ty ?_;exact a
 rintro f H1 E J;refine⟨rfl,_,by simp only[zR,seval];rfl,?_⟩;exact⟨rfl,J⟩
def Mo(H:aA)(lo:Nat)(v:AV)(l:List aC.V):Prop:=
 (l=[]/\v=.bE)\/∃X,l≠[]/\v=.sl X 3 0 l.length l.length/\H.get X=some (.cells (bR l).flatten true)/\lo<=X/\X<H.next
variable{H:aA}{lo:Nat}{v:AV}
theorem Mo.push(h:Mo H lo v l)(E:lo<=H.next)(Q:l.length<2^20)(x:aC.V):
 ∃D H',gE H 3 24 true v [cG x]=some (D,H')/\Mo H' lo D (l++[x])/\H'.next=H.next+1/\∀j,j<lo->H'.get j=H.get j:=by
 rcases h with ⟨rfl,rfl⟩|⟨X,z,rfl,t,O,Z⟩
 . refine⟨_,_,DK rfl A2,.inr ⟨H.next,by simp,rfl,by rw[aA.aI,if_pos rfl];rfl,E,by simp⟩,by simp,fun j Y=>by rw[aA.aI,if_neg A0]⟩
 have U:(bR l).flatten.length=l.length*3:=by rw[pZ (sz:=3) (fun e B=>?_),aU];obtain⟨x,_,rfl⟩:=Bb.1 B;rfl
 refine⟨_,_,DL t U rfl Zcr A1,.inr ⟨H.next,by simp,by simp,?_,E,by simp⟩,by simp,fun j Y=>by rw[aA.aI,aA.aZ,if_neg A0,aA.aH,if_neg A0]⟩;rw[aA.aI,aA.aZ,if_pos rfl];simp[bR]
theorem Mo.over{H':aA}(h:Mo H lo v l)(S:Over H H'):Mo H' lo v l:=by
 rcases h with h|⟨X,o,O,Z,W,h4⟩
 . exact .inl h
 exact .inr ⟨X,o,O,(S.same _ h4).trans Z,W,Bg h4 S.le⟩
theorem UM(Q:l.length<=64){r:Nat}{o:Bool}{H:aA}(L:r<H.next)(hr:H.get r=some (.cells [.bJ tag 3 (bR l)] o)):
 ∃H' v,Over H H'/\Mo H' H.next v l/\Sg 350 [.bE,.func (.func 324) [] [.ref r 0]] H (.ret v) H':=by
 suffices h:∃out H',(∃v,out=.ret v/\Over H H'/\Mo H' H.next v l)/\Sg 350 [.bE,.func (.func 324) [] [.ref r 0]] H out H' by obtain⟨_,H',⟨v,rfl,O,Z⟩,u⟩:=h;exact⟨H',v,O,Z,u⟩
 refine AZ fit aTp (Ai rfl) ?_;unfold aMf;dsimp only;refine bP ?_;refine Ty ?_;refine bQ ?_;refine aM fun K hK=>?_;refine bP ?_;refine Ty ?_;refine bQ ?_
 have y:oO 13 (kI (kI (kI (fD [.bE,.func (.func 324) [] [.ref r 0]]) 2 (.ref H.next 0)) 4 .bE) 6 (.func (.func 324) [] [.ref r 0])):=
  ((((AN (Ai rfl)).1.kI A1 _).kI A1 _).kI A1 _)
 have n:(kI (kI (kI (fD [.bE,.func (.func 324) [] [.ref r 0]]) 2 (.ref H.next 0)) 4 .bE) 6 (.func (.func 324) [] [.ref r 0])) 2=.ref H.next 0:=rfl;have ae:(kI (kI (kI (fD [.bE,.func (.func 324) [] [.ref r 0]]) 2 (.ref H.next 0)) 4 .bE) 6 (.func (.func 324) [] [.ref r 0])) 6=.func (.func 324) [] [.ref r 0]:=rfl;generalize kI (kI (kI (fD [.bE,.func (.func 324) [] [.ref r 0]]) 2 (.ref H.next 0)) 4 .bE) 6 (.func (.func 324) [] [.ref r 0])=f at *;refine aJ ?_;refine IF (by rw[jM];exact ae) ?_;simp only[aA.bK];generalize q:Mm.mk [7] _ _=key
 let I:Nat->aA->Prop:=fun i H'=>Over H H'/\H.next+3<=H'.next/\H'.get (H.next+1)=some .Nu/\H'.get (H.next+2)=some (.loop key (LF 13 f) .ready)/\∃v,H'.get H.next=some (.cells [v] false)/\Mo H' (H.next+3) v (l.take i)
 have A:∀i H1 w,Over H1 w->I i H1->I i w:=fun i H1 w S ⟨w1,w2,G,t,v,M,p⟩=>⟨⟨Ay w1.le S.le,fun j Y=>(S.same j A0).trans (w1.same j Y)⟩,Ay w2 S.le,(S.same _ A0).trans G,(S.same _ A0).trans t,v,(S.same _ A0).trans M,p.over S⟩
 have h0:I 0 (((H.alloc (.cells [.bE] false)).alloc .Nu).alloc (.loop key (LF 13 f) .ready)):=
  ⟨(((Over.refl H).alloc _).alloc _).alloc _,by simp,by simp[aA.aI],by simp[aA.aI],.bE,by simp[aA.aI];omega,.inl ⟨by simp,rfl⟩⟩
 have C:∀i (F:i<l.length) H1,I i H1->∃H',tY Tryz.prog gv (H.next+1+1) [.agg (cG l[i])] H1 (.ret (.bool true)) H'/\I (i+1) H':=by
  rintro i F H1 ⟨w1,w2,G,t,v,M,p⟩;have m:l.take (i+1)=l.take i++[l[i]]:=by rw[Ao];simp[F]
  have aj:(l.take i).length=i:=by simp;omega
  generalize l[i]=x at *
  suffices h:∃H',UX Tryz.prog gv 13 key f (H.next+1+1) [.agg (cG x)] H1 (.ret (.bool true)) H'/\I (i+1) H' by obtain⟨H',hr,J⟩:=h;exact⟨H',Zo fit y t (by rw[<-q];rfl) hr,J⟩
  have g:Over H1 ((H1.alloc (.cells [.int .i64 0,.int .i64 0,.int .i64 0] false)).set H1.next (.cells (cG x) false)):=((Over.refl H1).alloc _).set (Ae _) _;have gx:((H1.alloc (.cells [.int .i64 0,.int .i64 0,.int .i64 0] false)).set H1.next (.cells (cG x) false)).get H1.next=some (.cells (cG x) false):=by rw[aA.aH,if_pos rfl]
  have gn:((H1.alloc (.cells [.int .i64 0,.int .i64 0,.int .i64 0] false)).set H1.next (.cells (cG x) false)).next=H1.next+1:=by simp
  have af:∀(HA:aA) (T:eG),Over H1 HA->HA.get H1.next=some (.cells (cG x) false)->HA.next=H1.next+1->∃D Hp,gE (HA.set (H.next+1+1) T) 3 24 true v [cG x]=some (D,Hp)/\Mo Hp (H.next+3) D (l.take (i+1))/\Hp.next=HA.next+1/\∀j,j<H.next+3->Hp.get j=(HA.set (H.next+1+1) T).get j:=fun HA T o1 o2 o3=>by
   have :Mo (HA.set (H.next+1+1) T) (H.next+3) v (l.take i):=by
    rcases p with h|⟨X,k,q1,q2,q3,q4⟩
    . exact .inl h
    exact .inr ⟨X,k,q1,by rw[aA.aH,if_neg A0,o1.same _ q4];exact q2,q3,by rw[aA.aZ];omega⟩
   obtain⟨D,Hp,O,Z,W,h4⟩:=this.push (by rw[aA.aZ];omega) A0 x;exact⟨D,Hp,O,by rw[m];exact Z,W,h4⟩
  have a7:=(g.same (H.next+2) A0).trans t;have a6:=(g.same H.next A0).trans M;have ab:=(g.same (H.next+1) A0).trans G;have ad:Over H ((H1.alloc (.cells [.int .i64 0,.int .i64 0,.int .i64 0] false)).set H1.next (.cells (cG x) false)):=⟨Ay w1.le g.le,fun j Y=>(g.same j A0).trans (w1.same j Y)⟩;obtain⟨D,Hp,P,p2,p3,U⟩:=af _ (.loop key (LF 13 f) .busy) g gx gn
  obtain⟨z,sb,sc,sd,se,rfl⟩:∃a b c d e,D=.sl a b c d e:=by
   rcases p2 with ⟨h,_⟩|⟨X,_,h,_⟩
   . rw[m] at h;simp at h
   exact⟨_,_,_,_,_,h⟩
  refine⟨(Hp.set H.next (.cells [.sl z sb sc sd se] false)).set (H.next+1+1) (.loop key (LF 13 f) .ready),?_,?_⟩
  . subst q;unfold UX;dsimp only[List.zip,List.zipWith,uY,gK]
    have ag:FC Tryz.prog gv 13 (.ops [⟨some 5,.alloc [.int .i64 0,.int .i64 0,.int .i64 0],none⟩,⟨none,.store 3 (.tmp 5) (.tmp 7),none⟩]) (kI f 7 (.agg (cG x))) [] H1 (fun e f1 N E=>e=.normal/\f1=kI (kI f 7 (.agg (cG x))) 5 (.ref H1.next 0)/\N=[]/\E=(H1.alloc (.cells [.int .i64 0,.int .i64 0,.int .i64 0] false)).set H1.next (.cells (cG x) false)):=by simp only[↓zP,zJ,seval,oL (aT x)]
    refine lE (fun e f1 N E h=>?_) ag;obtain⟨rfl,rfl,rfl,rfl⟩:=h;refine⟨rfl,_,_,a7,?_⟩;generalize (H1.alloc (.cells [.int .i64 0,.int .i64 0,.int .i64 0] false)).set H1.next (.cells (cG x) false)=HA at *;refine aJ ?_;have n1:¬(H.next=H.next+1+1):=A0;have n2:¬(H1.next=H.next+1+1):=A0;have pb:=(U H.next A0).trans ((by rw[aA.aH,if_neg A0]:_=HA.get H.next).trans a6);have pl:=(U (H.next+1+1) A0).trans ZaR;simp only[↓zP,zJ,seval,n,a6,gx,n1,n2,oL (aT x)];rw[eL];simp only[P,bX,zJ,seval,pb];exact⟨rfl,rfl,_,_,by rw[aA.aH,if_neg A0];exact pl,rfl⟩
  have pn:H1.next<=Hp.next:=by omega
  refine⟨⟨by simp only[aA.aZ];have :=w1.le;omega,fun j Y=>?_⟩,by simp only[aA.aZ];omega,?_,?_,.sl z sb sc sd se,?_,?_⟩
  . rw[aA.aH,if_neg A0,aA.aH,if_neg A0,U j A0,aA.aH,if_neg A0];exact ad.same j Y
  . rw[aA.aH,if_neg A0,aA.aH,if_neg A0,U _ A0,aA.aH,if_neg A0];exact ab
  . exact ZaR
  . rw[aA.aH,if_neg A0,aA.aH,if_pos rfl]
  rcases p2 with h|⟨X,k,q1,q2,q3,q4⟩
  . exact .inl h
  exact .inr ⟨X,k,q1,by rw[aA.aH,if_neg A0,aA.aH,if_neg A0];exact q2,q3,by simp only[aA.aZ];omega⟩
 obtain⟨B,⟨w1,w2,G,t,v,M,p⟩,u⟩:=ZL (tag:=tag) (o:=o) A0 I A C (r:=r) (by rw[aA.aI,if_neg Zaf,aA.aI,if_neg Zaf,aA.aI,if_neg A0];exact hr) h0
 refine⟨_,B,_,_,_,u,t,fun Hf hf=>?_⟩;obtain⟨f1,s⟩:=hf;show K f [.mark (H.next+1)] Hf;apply hK;clear hK K;have b0:Hf.get H.next=some (.cells [v] false):=by rw[s,if_neg A0];exact M
 have R:Hf.get (H.next+1)=some .Nu:=by rw[s,if_neg A0];exact G
 simp only[↓zP,zJ,seval,n,b0];rw[Aq] at p;refine⟨R,[v],rfl,v,rfl,⟨by rw[aA.aZ,f1];exact w1.le,fun j Y=>by rw[aA.aH,if_neg A0,s,if_neg A0];exact w1.same j Y⟩,?_⟩
 rcases p with h|⟨X,k,q1,q2,q3,q4⟩
 . exact .inl h
 exact .inr ⟨X,k,q1,by rw[aA.aH,if_neg A0,s,if_neg A0];exact q2,by omega,by rw[aA.aZ,f1];exact q4⟩
def aRe(p q:aC.V):Int:=orZ [yB p.x q.x,yB p.y q.y,yB p.z q.z]
theorem PR(p q:aC.V):aRe p q<0↔iO p q:=ET (p,0) (q,0)
theorem th(p q:aC.V)(H:aA):Sg 292 [.agg (cG p),.agg (cG q)] H (.ret (.int .i64 (aRe p q))) H:=by
 refine So bKh Zae ?_ H;unfold aYc;dsimp only;refine bP ?_;refine Ty ?_;refine fW ?_;refine Dz ?_;simp only[↓zP,zJ,seval,zD,cG,AR];refine gH (kV p.x q.x _) ?_;simp only[↓zP,zJ,seval,zD,AR];refine gH (kV p.y q.y _) ?_;simp only[↓zP,zJ,seval,zD,AR];refine gH (kV p.z q.z _) ?_;simp only[↓zP,zJ,seval,zD];have w:=aCr [yB p.x q.x,yB p.y q.y,yB p.z q.z] A2;simp only[Lj,sm] at w;refine Wz ?_;refine bQ ?_;refine Tx ?_
 (refine Rx ?_;rfl)
def vV(q:aC.V):FG 3:=⟨[q.x,q.y,q.z],rfl⟩
def KE(x:FG 3):aC.V:=⟨x.1.getD 0 0,x.1.getD 1 0,x.1.getD 2 0⟩
theorem WJ(x:FG 3):vV (KE x)=x:=by
 obtain⟨l,U⟩:=x
 match l,U with
 |[a,b,c],_=>rfl
theorem mq(q:aC.V):XU (vV q)=cG q:=rfl
theorem Vy:∀S:List aC.V,(oT (S.map vV)).map (AV.int .i64)=(bR S).flatten
 |[]=>rfl
 |q::S=>by have :=Vy S;simp only[oT,Cg,Dw,Cd,Cl,bR] at this ⊢;rw[this];rfl
theorem bRy:Go.Sort.SWO (Go.Proofs.ltOf fun x y:FG 3=>aRe (KE x) (KE y)) where
 irrefl x:=by simp only[Go.Proofs.ltOf,PR,Ce];exact iO.o5 _
 trans x y z h1 h2:=by simp only[Go.Proofs.ltOf,PR,Br] at *;exact iO.trans h1 h2
 ntrans x y z h1 h2:=by simp only[Go.Proofs.ltOf,PR,Ce] at *;unfold iO at *;omega
theorem Vl:DH Tryz.prog 323:=⟨_,Tryz.func323,by kernel_rfl,by kernel_rfl⟩
theorem aJu(d:List (FG 3))(hd:d.length<4611686018427387904):
 ∃d':List (FG 3),d'.Perm d/\(d'.Pairwise fun a b=>¬aRe (KE b) (KE a)<0)/\∀(H:aA) (id:Nat) (r:Bool),H.get id=some (.cells ((oT d).map (AV.int .i64)) r)->
  Sg 323 [.sl id 3 0 d.length d.length,.func (.func 292) [] []] H (.ret (.jS [])) (H.set id (.cells ((oT d').map (AV.int .i64)) r)):=
 IN (fun _=>rfl) Tryz.aJt A1 Tryz.isAgg33 Tryz.sizeOf33 rfl Vl (th V0 V0 ⟨0,.nil⟩).1 bRy (fun x y=>by
  have :=th (KE x) (KE y) ⟨0,.nil⟩
  rwa [<-mq,<-mq,WJ,WJ] at this) d hd
theorem uv(l:List aC.V)(H:aA):Sg 291 [.bJ tag 3 (bR l)] H (.ret (.func (.func 324) [] [.ref H.next 0])) (H.alloc (.cells [.bJ tag 3 (bR l)] false)):=by refine oX aTk (Ai rfl) ?_;unfold aMa;dsimp only;refine Ty ?_;refine Rx ?_;exact⟨rfl,rfl⟩
theorem Zg(Q:l.length<=64){r:Nat}{o:Bool}{H:aA}(L:r<H.next)(a:H.get r=some (.cells [.bJ tag 3 (bR l)] o)):
 ∃H' v,Over H H'/\Mo H' H.next v l/\Sg 322 [.func (.func 324) [] [.ref r 0]] H (.ret v) H':=by
 obtain⟨H',v,O,Z,u⟩:=UM Q L a;refine⟨H',v,O,Z,?_⟩;refine oX aTn (Ai rfl) ?_;unfold aMd;dsimp only;refine Wz ?_;refine Rx ?_;exact ZbJ
theorem SB(Q:l.length<=64){r:Nat}{o:Bool}{H:aA}(L:r<H.next)(c:H.get r=some (.cells [.bJ tag 3 (bR l)] o)):
 ∃H' v S,S.Perm l/\(S.Pairwise fun a b=>¬iO b a)/\Over H H'/\Mo H' H.next v S/\Sg 290 [.func (.func 324) [] [.ref r 0],.func (.func 292) [] []] H (.ret v) H':=by
 obtain⟨H1,v,O,Z,u⟩:=Zg Q L c
 rcases Z with ⟨rfl,rfl⟩|⟨X,z,rfl,t,E,A⟩
 . refine⟨H1,.bE,[],.refl _,.nil,O,.inl ⟨rfl,rfl⟩,?_⟩;refine oX aGi (Ai rfl) ?_;unfold aDi;dsimp only;refine Ty ?_;refine fC (u) ?_;refine Ty ?_;refine fC (nP Tryz.aJt rfl Vl 292 _) ?_;refine Tz ?_;refine Rx ?_;exact ZbJ
 obtain⟨d',q1,q2,q3⟩:=aJu (l.map vV) (by simp only[Ah];omega);have p:H1.get X=some (.cells ((oT (l.map vV)).map (AV.int .i64)) true):=by rw[t,Vy]
 have R:=q3 H1 X true p;rw[Ah] at R;have i:d'=(d'.map KE).map vV:=by rw[Da];exact(Dd (g:=id) (fun x _=>WJ x)).trans (Fv d') |>.symm
 rw[i,Vy] at R
 have m:(d'.map KE).Perm l:=by
  have O:=q1.map KE
  rwa [Da,show(KE∘vV)=id from rfl,Fv] at O
 have U:=m.length_eq;refine⟨H1.set X (.cells (bR (d'.map KE)).flatten true),.sl X 3 0 (d'.map KE).length (d'.map KE).length,d'.map KE,m,?_,⟨by rw[aA.aZ];exact O.le,fun j Y=>?_⟩,.inr ⟨X,fun h=>z (Cm (by rw[<-U,h];rfl)),rfl,?_,E,by rw[aA.aZ];exact A⟩,?_⟩
 . rw[Eo];exact q2.imp fun h Z=>h ((PR _ _).2 Z)
 . rw[aA.aH,if_neg A0];exact O.same j Y
 . exact ZaR
 rw[U];refine oX aGi (Ai rfl) ?_;unfold aDi;dsimp only;refine Ty ?_;refine fC (u) ?_;refine Ty ?_;refine fC (R) ?_;refine Tz ?_;refine Rx ?_;exact ZbJ
def dd(l:List aC.V):Nat->List aC.V
 |0=>[]
 |j+1=>dd l j++(if 0<j/\l.getD j V0=l.getD (j -1) V0 then [] else [l.getD j V0])
theorem aRr(l:List aC.V):∀j,(dd l j).length<=j
 |0=>Ae _
 |j+1=>by
  have :=aRr l j
  grind[dd,List.length_append]
theorem Lk(R:List aC.V):(bR R).flatten.length=R.length*3:=by rw[pZ (sz:=3) (fun e B=>?_),aU];obtain⟨x,_,rfl⟩:=Bb.1 B;rfl
theorem Qa:∀{R:List aC.V} {p:Nat} (h:p<R.length),((bR R).flatten.drop (p*3)).take 3=cG R[p]
 |x::R,0,_=>rfl
 |x::R,p+1,h=>by have :=Qa (R:=R) (p:=p) (by grind);simp only[List.getElem_cons_succ,<-this,Bo,Fk];rfl
theorem Qb:∀{R:List aC.V} {p:Nat} (h:p<R.length) (x:aC.V),iT (bR R).flatten (p*3) (cG x)=(bR (R.set p x)).flatten
 |y::R,0,_,x=>rfl
 |y::R,p+1,h,x=>by
  have :=Qb (R:=R) (p:=p) Zcx x;simp only[List.set_cons_succ];simp only[iT,bR,Cg,Cl,aT] at this ⊢;rw[<-this];have e:(p+1)*3=(p*3)+1+1+1:=by omega
  rw[e];simp only[cG,Gk,Dt,Gf,Iv]
theorem YG:∀(R:List aC.V) (p:Nat),(bR R).flatten.take (p*3)=(bR (R.take p)).flatten
 |[],p=>by simp[bR]
 |x::R,0=>by rfl
 |x::R,p+1=>by
  have :=YG R p;simp only[bR,Cg,Cl,Gf] at this ⊢
  grind[cG]
theorem OD:∀m:Nat,cW (List.replicate m [AV.int .i64 0,.int .i64 0,.int .i64 0]).flatten=true
 |0=>rfl
 |m+1=>by exact OD m
theorem aBy(m:Nat):(List.replicate m [AV.int .i64 0,.int .i64 0,.int .i64 0]).flatten.length=m*3:=by simp
theorem oZ(v w:aC.V):cD [.i,.i,.i] (cG v) (cG w)=some (decide (v=w)):=by
 obtain⟨a,b,c⟩:=v;obtain⟨s,I,K⟩:=w;simp only[cG,cD,if_true,Ct,V.mk.injEq,Jt];congr 1
 grind
theorem Zh(Q:l.length<=64){id:Nat}{H:aA}(ar:id<H.next)(t:H.get id=some (.cells (bR l).flatten true)):
 ∃H' rest,H'.get id=some (.cells ((bR (dd l l.length)).flatten++rest) true)/\cW rest=true/\H'.next=H.next/\(∀j,j≠id->H'.get j=H.get j)/\
  Sg 293 [.sl id 3 0 l.length l.length] H (.ret (.sl id 3 0 (dd l l.length).length l.length)) H':=by
 suffices h:∃out H',(out=.ret (.sl id 3 0 (dd l l.length).length l.length)/\∃rest,H'.get id=some (.cells ((bR (dd l l.length)).flatten++rest) true)/\cW rest=true/\H'.next=H.next/\(∀j,j≠id->H'.get j=H.get j))/\
  Sg 293 [.sl id 3 0 l.length l.length] H out H' by
  obtain⟨_,H',⟨rfl,rest,O,Z,W,h4⟩,u⟩:=h;exact⟨H',rest,O,Z,W,h4,u⟩
 refine dM fit aTl (Ai rfl) ?_;unfold aMb;dsimp only;have y:∀k (h:k<l.length),l.getD k V0=l[k]:=fun k h=>by simp[List.getD,h]
 have same:dd l l.length=l->(∃rest,H.get id=some (.cells ((bR (dd l l.length)).flatten++rest) true)/\cW rest=true/\H.next=H.next/\(∀j,j≠id->H.get j=H.get j)):=fun h=>⟨[],by rw[h,Bx];exact t,rfl,rfl,fun _ _=>rfl⟩
 refine bP ?_;simp only[↓zP,zG,Nat.reduceLT];refine bQ ?_;refine aM fun K hK=>?_;refine Wy ?_;refine⟨fun Z=>?_,fun Z=>?_⟩
 . refine Rx ?_
   have hd:dd l l.length=l:=by
    match l,Z with
    |[],_=>rfl
    |[a],_=>simp[dd]
    |a::b::r,h=>simp at h;omega
   exact⟨by rw[hd];rfl,same hd⟩
 apply hK;clear hK K;have al:2<=l.length:=by omega
 refine aM fun K hK=>?_;simp only[↓zP,zG,Nat.reduceLT];refine aJ ?_;refine kJ [3] (fun M vs H'=>∃k,1<=k/\k<=l.length/\M=l.length -k/\vs=[.int .i64 (k:Nat)]/\H'=H/\dd l k=l.take k) (l.length -1) (by rfl) ?_ ?_
 . refine⟨1,Ae _,by omega,rfl,rfl,rfl,?_⟩
   match l,al with
   |a::r,_=>simp[dd]
 rintro M' f H1 E ⟨k,k1,k2,rfl,J,rfl,nv⟩;simp only[zM] at J;refine aM fun D cY=>?_;simp only[↓zP,zJ,Nat.reduceLT,Nat.reduceEqDiff,J,E 0 rfl];refine⟨fun fF=>?_,fun PB=>?_⟩
 . apply cY;clear cY D;have z:k<l.length:=by omega
   have a7:k -1<l.length:=A0;have w1:IntKind.i64.wrap ((k:Int) -1)=((k -1:Nat):Int):=(wrap_i64 A0 A0).trans A0;have fl:=Lk l;have ak:=Qa z;have az:=Qa a7
   have C:dd l (k+1)=l.take k++(if l[k]=l[k -1] then [] else [l[k]]):=by simp only[dd,nv,y k z,y (k -1) a7];simp[show 0<k by omega]
   refine aM fun D cY=>?_;refine aJ ?_;refine bP ?_;refine Dz ?_;have ck:k*3+3<=l.length*3:=A0;have ay:(k -1)*3+3<=l.length*3:=A0;have :=E 0 rfl;have := @oZ;refine Ww ?_;refine bQ ?_;by_cases B:l[k]=l[k -1]
   . have X:=Ag B
     have ot:uG 3 (.sl id 3 0 l.length l.length) (some k) none none=some (.sl id 3 (0+k*3) (l.length -k) (l.length -k)):=by simp only[uG,By,Eb,Ju];rw[if_pos A0,if_pos A0,if_neg A0]
     simp only[↓zP,zJ,Nat.reduceLT,Nat.reduceEqDiff,Nat.reduceAdd,X,J,E 0 rfl,eM,aD,ot,Co];refine aJ ?_;rw[if_pos B,Bx] at C
     refine kJ [3,5] (fun M vs H'=>∃A k2 R,1<=k2/\k+k2<=l.length/\M=l.length -(k+k2)/\vs=[.int .i64 (A:Nat),.int .i64 (k2:Nat)]/\A<=k+k2 -1/\R.length=l.length/\R.take A=dd l (k+k2)/\A=(dd l (k+k2)).length/\(∀p,k+k2 -1<=p->p<l.length->R[p]?=l[p]?)/\
      H'.get id=some (.cells (bR R).flatten true)/\H'.next=H1.next/\∀j,j≠id->H'.get j=H1.get j) (l.length -(k+1)) (by rfl) ?_ ?_
     . refine⟨k,1,l,Ae _,by omega,rfl,?_,by omega,rfl,C.symm,by rw[C];simp;omega,fun p _ _=>rfl,t,rfl,fun _ _=>rfl⟩;simp only[sm,zB,Nat.reduceEqDiff,J];rfl
     rintro M' f2 H2 N ⟨A,k2,R,r1,r2,rfl,rT,r3,r4,F,T,r7,w,r9,i⟩;simp only[zM] at rT;obtain⟨g,U⟩:=rT;refine aM fun v x=>?_
     have w0:decide (((k2:Nat):Int)<((l.length -k:Nat):Int))=decide (k+k2<l.length):=by rw[Aw];omega
     have L:=aRr l (k+k2);simp only[↓zP,zJ,Nat.reduceLT,Nat.reduceEqDiff,U,N 4 rfl];refine⟨fun fF=>?_,fun PB=>?_⟩
     . apply x;clear x v;have Y:k+k2<l.length:=A0;have a6:k+k2<R.length:=A0;have ab:k+k2 -1<R.length:=A0;have aj:=Qa a6;have ae:=Qa ab
       have ej:R[k+k2]=l[k+k2]:=by have :=r7 (k+k2) A0 Y;rw[Af a6,Af Y] at this;exact Aa this
       have an:R[k+k2 -1]=l[k+k2 -1]:=by have :=r7 (k+k2 -1) (Ae _) A0;rw[Af ab,Af (show k+k2 -1<l.length by omega)] at this;exact Aa this
       rw[ej] at aj;rw[an] at ae
       have NL:dd l (k+k2+1)=dd l (k+k2)++(if l[k+k2]=l[k+k2 -1] then [] else [l[k+k2]]):=by simp only[dd,y (k+k2) Y,y (k+k2 -1) A0];simp[show 0<k+k2 by omega]
       have w1:IntKind.i64.wrap ((k2:Int) -1)=((k2 -1:Nat):Int):=(wrap_i64 A0 A0).trans A0;have w2:IntKind.i64.wrap ((k2:Int)+1)=((k2+1:Nat):Int):=(wrap_i64 A0 A0).trans A0;have G:IntKind.i64.wrap ((A:Int)+1)=((A+1:Nat):Int):=(wrap_i64 A0 A0).trans A0;have c:k*3+k2*3=(k+k2)*3:=A0;have d:k*3+(k2 -1)*3=(k+k2 -1)*3:=A0;have fR:=Lk R;have e:(k+k2)*3+3<=R.length*3:=A0;have y2:(k+k2 -1)*3+3<=R.length*3:=A0;have y3:A*3+3<=R.length*3:=A0;have q:k2<l.length -k:=A0;have z2:k2 -1<l.length -k:=A0;have z3:A<l.length:=A0;refine aM fun v x=>?_;refine aJ ?_;refine bP ?_;refine Dz ?_;simp only[↓zP,zJ,Nat.reduceLT,Nat.reduceEqDiff,Nat.reduceAdd,zD,reduceCtorEq,U,N 4 rfl,aD,q,z2,w,w1,c,d,fR,e,y2,aj,ae,oZ];refine bQ ?_;by_cases s:l[k+k2]=l[k+k2 -1]
       . have o:(!decide (l[k+k2]=l[k+k2 -1]))=false:=(by simp[s]);simp only[↓zP,zG,o];apply x;clear x v;simp only[↓zP,zJ,Nat.reduceLT,Nat.reduceEqDiff,U,g,w2];rw[if_pos s,Bx] at NL;refine⟨_,by omega,A,k2+1,R,by omega,by omega,rfl,rfl,by omega,r4,by rw[<-Bm,NL];exact F,by rw[<-Bm,NL];exact T,fun p P S=>r7 p A0 S,w,r9,i⟩
       have o:(!decide (l[k+k2]=l[k+k2 -1]))=true:=(by simp[s]);have ad:=Qb (R:=R) (p:=A) A0 l[k+k2];simp only[iT] at ad;simp only[↓zP,zJ,Nat.reduceLT,Nat.reduceEqDiff,o,U,g,N 4 rfl,N 0 rfl,E 0 rfl,aD,q,z3,w,c,fR,e,y3,aj,G,oL (aT l[k+k2])];apply x;clear x v;simp only[↓zP,zJ,Nat.reduceLT,Nat.reduceEqDiff,U,w2];rw[if_neg s] at NL;refine⟨_,by omega,A+1,k2+1,R.set A l[k+k2],by omega,by omega,rfl,rfl,by omega,by rw[Kc];exact r4,?_,?_,fun p P S=>?_,by rw[<-ad];rfl,r9,fun j Y=>?_⟩
       . rw[<-Bm,NL,<-F,Ao,List.take_set_of_le (Ae _)];simp[show A<R.length by omega]
       . rw[<-Bm,NL,An,<-T];rfl
       . rw[List.getElem?_set_ne A0];exact r7 p A0 S
       rw[if_neg Y];exact i j Y
     have I:k+k2=l.length:=A0;obtain⟨m,hm⟩:∃m,l.length -A=m+1:=⟨l.length -A -1,by omega⟩
     have ag:uG 3 (.sl id 3 0 l.length l.length) (some A) none none=some (.sl id 3 (A*3) (m+1) (m+1)):=by simp only[uG,By,Eb,Ju];rw[if_pos A0,if_pos A0,if_neg A0,hm,Em]
     have af:uG 3 (.sl id 3 0 l.length l.length) none (some A) none=some (.sl id 3 0 A l.length):=by simp only[uG,By,Eb,Ju];rw[if_pos A0,if_pos A0,if_neg A0];simp
     have fR:=Lk R;have aq:A*3+(m+1)*3<=R.length*3:=A0;simp only[↓zP,zJ,Nat.reduceEqDiff,g,N 0 rfl,E 0 rfl,aD,ag,af,w,fR,aq,Co,Bi];rw[I] at F T;rw[YG,F,Dg];refine Rx ?_;refine⟨by rw[<-T];rfl,_,by rw[aA.aH,if_pos rfl],?_,by rw[aA.aZ];exact r9,fun j Y=>by rw[aA.aH,if_neg Y];exact i j Y⟩
     rw[mM,OD,Bc (by rw[aBy,fR];omega)]
     rfl
   have X:=Ab B;simp only[↓zP,zG,X];apply cY;clear cY D;have w2:IntKind.i64.wrap ((k:Int)+1)=((k+1:Nat):Int):=(wrap_i64 A0 A0).trans A0;simp only[↓zP,zJ,Nat.reduceLT,Nat.reduceEqDiff,J,w2];refine⟨_,by omega,k+1,by omega,by omega,rfl,rfl,trivial,?_⟩;rw[C,if_neg B,Ao];simp[z]
 apply hK;clear hK K cY D;have I:k=l.length:=by omega
 subst I;rw[Aq] at nv;simp only[↓zP,zJ,Nat.reduceLT,Nat.reduceEqDiff,E 0 rfl];refine Rx ?_;exact⟨by rw[nv];rfl,same nv⟩
theorem Pz(l:List aC.V)(v:aC.V):∀j,j<=l.length->(v∈dd l j↔v∈l.take j)
 |0,_=>by simp[dd]
 |j+1,h=>by
  have z:=Pz l v j A0;have Y:j<l.length:=h;have t:l.getD j V0=l[j]:=by simp[List.getD,Y]
  rw[Ao,Af Y];simp only[dd,Ar,z,t,Option.toList_some,Bd,Ci,Fe];split
  . rename_i R;obtain⟨o,B⟩:=R;have D:j -1<l.length:=by omega
    have q:l.getD (j -1) V0=l[j -1]:=(by simp[List.getD,D]);simp only[Ci,Fe];refine⟨.inl,fun h=>h.elim id fun e=>?_⟩;rw[e,B,q];exact List.mem_take_iff_getElem.2 ⟨j -1,by omega,rfl⟩
  simp
theorem bu{l:List aC.V}(M:l.Pairwise fun a b=>¬iO b a):∀j,j<=l.length->(dd l j).Pairwise iO
 |0,_=>.nil
 |j+1,h=>by
  have z:=bu M j A0;have Y:j<l.length:=h;have t:l.getD j V0=l[j]:=by simp[List.getD,Y]
  simp only[dd,t];split
  . rw[Bx];exact z
  rename_i R;rw[List.pairwise_append];refine⟨z,List.pairwise_singleton _ _,fun v J x C=>?_⟩;simp only[Bd,Ci,Fe] at C;subst C;rw[Pz l v j A0] at J;obtain⟨i,F,rfl⟩:=List.mem_take_iff_getElem.1 J;have s:i<j:=by omega
  have D:j -1<l.length:=by omega
  have q:l.getD (j -1) V0=l[j -1]:=by simp[List.getD,D]
  rw[q] at R;have d:l[j]≠l[j -1]:=fun e=>R ⟨by omega,e⟩;have m:=Fy.1 M;have P:=m (j -1) j D Y A0;have S:iO l[j -1] l[j]:=(iO.total d).elim (fun h=>absurd h P) id;by_cases o:i=j -1
  . subst o;exact S
  have u:=m i (j -1) A0 D A0;generalize l[i]=a at *;generalize l[j -1]=b at *;generalize l[j]=c at *;unfold iO at *;omega
structure Ord (l C:List aC.V):Prop where
 Ra:C.Pairwise iO
 mem:∀v,v∈C↔v∈l
theorem Ord.uniq{C a:List aC.V}(h:Ord l C)(K:Ord l a):C=a:=
 EX (R:=iO) iO.o5 (fun h K=>iO.trans h K) h.Ra K.Ra fun v=>(h.mem v).trans (K.mem v).symm
theorem Ord.of{S C:List aC.V}(m:S.Perm l)(M:S.Pairwise fun a b=>¬iO b a)(h:Ord l C):dd S S.length=C:=
 Ord.uniq (l:=l) ⟨bu M _ (Ae _),fun v=>by rw[Pz S v _ (Ae _),Aq];exact m.mem_iff⟩ h
theorem Nn(H:aA):Sg 293 [.bE] H (.ret .bE) H:=by refine oX aTl (Ai rfl) ?_;unfold aMb;dsimp only;refine bP ?_;refine Tz ?_;refine bQ ?_;refine aM fun K hK=>?_;refine Ty ?_;refine⟨fun Z=>?_,fun Z=>absurd (show((0:Int)<2) by decide) (by simp at Z)⟩;refine Rx ?_;exact⟨rfl,rfl⟩
theorem Sw{sz:Nat}:∀{els:List (List AV)} (rest:List AV),(∀e∈els,e.length=sz)->gO sz els.length (els.flatten++rest)=els
 |[],_,_=>rfl
 |e::els,rest,h=>by have B:=h e Az;simp only[Ba,gO,Cl,Dg];rw[Cb A0,Au A0,Ep A0,Bc A0,Dt,Sw rest fun x C=>h x (As _ C)]
theorem aBj(q:Nat.blt tag 2=true){l C:List aC.V}(Q:l.length<=64)(j:Ord l C)(H:aA):
 Sg 252 [.bJ tag 3 (bR l)] H (.ret (mB 3 (bR C))) H:=by
 refine eP fit eE aTg (Ai rfl) ZaJ ?_ H;unfold aLw;dsimp only;obtain⟨H1,v,S,m,M,p,g,u⟩:=SB (tag:=tag) Q (r:=0) (o:=false) (H:=(aA.mk 0 .nil).alloc (.cells [.bJ tag 3 (bR l)] false)) A2 rfl;have b:=Ord.of m M j;have n:=m.length_eq;refine Ty ?_;refine fC (uv (tag:=tag) l _) ?_;simp only[seval];refine fC (u) ?_
 rcases g with ⟨rfl,rfl⟩|⟨X,z,rfl,t,E,A⟩
 . refine Tz ?_;refine fC (Nn _) ?_;refine Tz ?_;refine Rx ?_;rw[<-b];exact⟨_,0,rfl,fun d=>rfl⟩
 obtain⟨w,rest,y,i,c3,s,c⟩:=Zh A0 A t;refine Tz ?_;refine fC (c) ?_;refine Tz ?_;refine Rx ?_;rw[b] at y ⊢
 have f:¬bR C=[]:=by
  intro h;have :C=[]:=by simpa [bR] using h
  rw[this] at b
  match S,z with
  |x::r,_=>have :=(Pz (x::r) x _ (Ae _)).2 A2;rw[b] at this;cases this
 refine⟨.sl X 3 0 C.length S.length,0,rfl,fun d=>?_⟩;have R:w.fP X=some ((bR C).flatten++rest):=by simp[aA.fP,y]
 have K:∀e∈bR C,e.length=3:=fun e B=>by obtain⟨x,_,rfl⟩:=Bb.1 B;rfl
 have k:Nat.ble (0+C.length*3) ((bR C).flatten++rest).length=true:=by rw[An,Lk];exact Nat.ble_eq_true_of_le A0
 have a:cW ((bR C).flatten++rest)=true:=by rw[mM,nZ (show fN (bR C)=true from dP bV C),i];rfl
 rw[mB,if_neg f];simp only[jB,mJ,R,Fm,k,a,Ee];rw[show C.length=(bR C).length from (aU C).symm,Sw rest K]
end Go.Proofs.YtogfcjbgeebfkaaGreatDoor
