/-
  Part of the proof of statement 13
-/
import Derived.Test.YtogfcjbgeebfkaaGreatDoorB17
import Derived.Test.YtogfcjbgeebfkaaGreatDoorB18
import Derived.Test.YtogfcjbgeebfkaaGreatDoorB11
set_option linter.unusedVariables false
set_option maxRecDepth 100000
set_option linter.unusedSimpArgs false
set_option maxHeartbeats 16000000
namespace Go.Proofs.YtogfcjbgeebfkaaGreatDoor
open Go Go.Av Go.aH
attribute [local congr] aZ aQ aR aL bD aU aS aG bE
attribute [local irreducible] FC bS eE
theorem aBo{t1 t2:Nat}(O:Nat.blt t1 2=true)(Z:Nat.blt t2 2=true){a b:List aH.V}(I:a.length<2^30)(X:b.length<2^30)(H:aB):
 Sg 194 [.bK t1 3 (bU a),.bK t2 3 (bU b)] H (.ret (.bool (decide (a=b)))) H:=by
 refine So bHu (by simp only[sf,cT O,cT Z]) ?_ H;unfold aVm;dsimp only;refine bP ?_;refine Tz ?_;refine bQ ?_;refine aP fun K hK=>?_;by_cases U:a.length=b.length
 . have A:((a.length:Int) != (b.length:Int))=false:=by simp[U]
   simp only[↓zP,zJ,seval,aX,A];apply hK;clear hK K;refine aP fun K hK=>?_;refine bP ?_;refine Ty ?_;refine bQ ?_;refine bR [] (fun i vs H=>a.take i=b.take i) a.length A0 A1 ?_ ?_ ?_ ?_ ?_
   . exact zq
   . exact Zbw
   . rfl
   . rintro i f H1 F E T j;have c:i<b.length:=A0;have q:=cG F;have L:=cG c;refine aM ?_;refine bP ?_;refine Wy ?_;refine fQ ?_;refine Dz ?_;simp only[↓zP,zJ,seval,zD,E 0 rfl,E 1 rfl,aI,aX,F,c,q,L,oL (aW a[i]),oL (aW b[i]),oU];refine bQ ?_;by_cases z:a[i]=b[i]
     . have o:(!decide (a[i]=b[i]))=false:=(by simp[z]);simp only[↓zP,zG,seval,o];rw[Ao,Ao,j,Ai F,Ai c,z]
     have o:(!decide (a[i]=b[i]))=true:=(by simp[z]);refine Wy ?_;refine Rx ?_;rw[Ac]
     . rfl
     rintro rfl;exact z rfl
   rintro f H1 E j;rw[Ap,U,Ap] at j;refine Tx ?_;apply hK;refine Tz ?_;refine Rx ?_;rw[Af j];rfl
 have A:((a.length:Int) != (b.length:Int))=true:=by simp;omega
 simp only[↓zP,zJ,seval,aX,A];refine Rx ?_;rw[Ac]
 . rfl
 rintro rfl;exact U rfl
theorem Qs(H:aB):Sg 191 [.bG] H (.ret .bG) H:=by
 refine fA fit dZ aSi (Ab rfl) Zad ?_ H;unfold aKw;dsimp only;refine bP ?_;refine Tz ?_;refine fQ ?_;refine Ty ?_;refine bQ ?_;refine aP fun K hK=>?_;refine bP ?_;refine Ty ?_;refine bQ ?_;refine bR [] (fun i _ H=>H.get 0=some (.map [])/\1<=H.next) 0 A1 A1 ?_ ?_ ?_ ?_ ?_
 . exact zq
 . exact zq
 . exact⟨rfl,Ad _⟩
 . rintro i f H F;exact absurd F (Am _)
 rintro f H E ⟨a,V⟩;refine Tx ?_;apply hK;clear hK K;refine bP ?_;refine Tz ?_;refine bQ ?_;refine aP fun K hK=>?_;refine bP ?_;simp only[↓zP,zG,seval,E 3 rfl];refine NS A1 (by simp only[↓zP,seval]) a fun g c mb O T=>?_;refine Tx ?_;refine bQ ?_;obtain rfl:g=[]:=Cl O;generalize b:H.next=w at *;refine aM ?_;refine jW [10] (fun m vs H'=>vs=[.bG]/\H'.get w=some (.iter 0 mb c [])/\H'.get 0=some (.tW [] [] c mb)) 0 (by rfl) ?_ ?_
 . refine⟨by simp only[sm,zB,seval],by simp only[seval,zI,b],?_⟩;simp only[seval,zI,b];rw[if_neg A0]
 rintro m P H2 N ⟨J,d,g0⟩;simp only[zM] at J;refine bP ?_;refine Tx ?_;refine PK A1 (by simp only[↓zP,seval,N 73 rfl]) d g0 (fun y=>?_) fun j Y e=>absurd Y (Am _);refine Tz ?_;refine bQ ?_;refine Tz ?_;apply hK;clear hK K;simp only[↓zP,zG,seval,J];refine eI (nN Tryz.aIx rfl VY 249 _) ?_;simp only[↓zP,zG,seval,J];refine Rx ?_;exact⟨_,0,rfl,fun t=>rfl⟩
def nr(v:aH.V):Bool:=(List.range 3).all fun i=>decide (¬(v.at i>262144)/\¬(v.at i< -262144))
theorem QI{v:aH.V}:nr v=true↔bT (2^18) v:=by
 unfold nr bT;simp only[Bi,Bb,Bs];constructor
 . intro h;have G:=h 0 A1;have O:=h 1 A1;have Z:=h 2 A1
   grind[V.at]
 intro h i F
 match i,F with
 |0,_=>grind[V.at]
 |1,_=>grind[V.at]
 |2,_=>grind[V.at]
def mk(n:Nat)(P:Nat->Bool):List AV:=(List.range n).map fun k=>AV.bool (P k)
theorem VP(n:Nat)(P:Nat->Bool):(mk n P).length=n:=by simp[mk]
variable{n:Nat}
theorem bCb(P:Nat->Bool){k:Nat}(h:k<n):(mk n P).getD k aC=.bool (P k):=by simp[mk,List.getD,h]
theorem bCc(P:Nat->Bool){p:Nat}(h:p<n):(mk n P).take p++[AV.bool true]++(mk n P).drop (p+1)=mk n (fun k=>P k||k==p):=by
 refine Et (by simp[mk];omega) fun k O Z=>?_;simp only[Di,List.getElem_append,Fb,VP,As,Bo];by_cases E:k<p
 . rw[dif_pos A0];simp[mk];omega
 rw[dif_neg A0];by_cases N:k=p
 . subst N;rw[dif_pos A0];simp[mk]
 rw[dif_neg A0];simp only[mk,List.getElem_drop,Dv,Gt];have :p+1+(k -min p n -(0+1))=k:=by omega
 rw[this];simp[N]
def iK(S:List (aH.V×Int))(L:aH.V×Int->List Nat)(k:Nat):Bool:=S.any fun q=>(L q).contains k
def jB(C:List aH.V)(S:List (aH.V×Int))(L:aH.V×Int->List Nat):List aH.V:=((List.range C.length).filter (iK S L)).map fun k=>C.getD k V0
def jO(l C:List aH.V)(S:List (aH.V×Int))(L:aH.V×Int->List Nat):AV×Int:=
 if 64<l.length then(.bG,2) else if l.all nr=false then(.bG,1) else if S.length<4 then(.bG,120) else if 64<S.length then(.bG,2) else(lT 3 (bU (jB C S L)),0)
variable{tag:Nat}
theorem aKc(ht:Nat.blt tag 2=true){l C:List aH.V}(Q:l.length<2^30)(u:Ord l C){S:List (aH.V×Int)}{L:aH.V×Int->List Nat}(w:wB C S L)(H:aB):
 Sg 193 [.bK tag 3 (bU l)] H (.ret (.iV [.agg [(jO l C S L).1],.int .i64 (jO l C S L).2])) H:=by
 refine fA fit dZ aSj (Ab rfl) ZbC ?_ H;unfold aKx;dsimp only;refine bP ?_;refine Tz ?_;refine bQ ?_;refine aP fun K hK=>?_;simp only[↓zP,zJ,seval,aX];refine⟨fun h=>?_,fun b7=>?_⟩
 . have bj:64<l.length:=by omega
   refine Rx ?_;rw[show jO l C S L=(.bG,2) from if_pos bj];exact Zas
 have bj:¬(64<l.length):=by omega
 apply hK;clear hK K;refine aP fun K hK=>?_;refine bP ?_;refine Ty ?_;refine bQ ?_;refine bR [] (fun i _ H=>(∀v∈l.take i,nr v=true)/\H.get 0=some (.cells [.bG] false)/\1<=H.next) l.length A0 A1 ?_ ?_ ?_ ?_ ?_
 . exact zq
 . exact Zbw
 . exact ZbU
 . rintro i f H1 F E T ⟨y,g0,A⟩;have d:=cG F;have vC:=Ag F
   have hx:∀v,v∈l.take (i+1)->v∈l.take i\/v=l[i]:=fun v J=>by
    exact Zam
   generalize l[i]=x at *;have nx:¬(0=H1.next):=A0;refine aM ?_;refine bP ?_;simp only[↓zP,zJ,seval,T,E 22 rfl,aI,aX,F,d,oL (aW x)];refine fQ ?_;simp only[↓zP,zJ,seval,oL (aW x)];refine bQ ?_;refine fE [] (fun j _ H=>(∀c,c<j->¬(x.at c>262144)/\¬(x.at c< -262144))/\H.get 0=some (.cells [.bG] false)/\1<=H.next) 3 A1 rfl A1 ?_ ?_ ?_ ?_
   . exact zq
   . refine⟨fun c R=>absurd R (Am _),?_,?_⟩
     . rw[aB.aD,if_neg nx,aB.aJ,if_neg nx];exact g0
     simp only[aB.bB,aB.bJ];omega
   . rintro j P H2 Y N o ⟨R,U,LL⟩;have IZ:j<=2:=by omega
     have LB:(x.at j>262144\/x.at j< -262144)->l.all nr=false:=fun h=>by rw[<-Fx,Bi];intro ha;have :=ha x vC;simp only[nr,Bi,Bb,Bs] at this;have :=this j Y;omega
     refine aM ?_;by_cases I:x.at j>262144
     . have d1:=Af I;simp only[↓zP,zJ,seval,o,N 28 rfl,aI,iY x Y,aW,Y,IZ,d1,N 2 rfl,E 2 rfl,U];refine⟨rfl,_,by simp only[↓zP,zR,seval,N 2 rfl,E 2 rfl];rfl,?_⟩;exact Zar
     have d1:=Ac I;by_cases X:x.at j< -262144
     . have d2:=Af X;simp only[↓zP,zJ,seval,o,N 28 rfl,aI,iY x Y,aW,Y,IZ,d1,d2,N 2 rfl,E 2 rfl,U];refine⟨rfl,_,by simp only[↓zP,zR,seval,N 2 rfl,E 2 rfl];rfl,?_⟩;exact Zar
     have d2:=Ac X;simp only[↓zP,zJ,seval,o,N 28 rfl,aI,iY x Y,aW,Y,IZ,d1,d2];refine⟨fun c h=>?_,U,LL⟩;by_cases aE:c=j
     . subst aE;exact⟨I,X⟩
     exact R c A0
   rintro P H2 N ⟨R,U,LL⟩;refine Tx ?_;refine⟨fun v J=>?_,U,LL⟩
   exact ZbE
 rintro f H1 E ⟨y,g0,A⟩;rw[Ap] at y;have iO:l.all nr=true:=Bi.2 y;refine Tx ?_;apply hK;clear hK K;have aj:∀v∈C,bT (2^18) v:=fun v J=>QI.1 (y v ((u.mem v).1 J))
 have ay:C.length<=64:=by have :=sT C l (Gx (fun {a b} (h:jC a b) (e:a=b)=>jC.nv b Zbk) u.SL) fun v J=>(u.mem v).1 J;omega
 have vY:∀H,Sg 191 [lT 3 (bU C)] H (.ret (lT 4 (S.map nI))) H:=fun H=>by
  by_cases R:C=[]
  . subst R
    have aF:S=[]:=Fc.2 fun q D=>by obtain⟨i,j,k,_,_,h,_⟩:=iB ((w.fl.mem q).1 D);exact absurd h (Am _)
    subst aF;exact Qs H
  rw[show lT 3 (bU C)=.bK 0 3 (bU C) from if_neg (by simpa [bU] using R)];exact Tc A1 aj (Ad _) ay w.fl H
 have b8:∀H,Sg 252 [.bK tag 3 (bU l)] H (.ret (lT 3 (bU C))) H:=aAs ht A0 u;refine bP ?_;have :=E 0 rfl;refine Wz ?_;refine fQ ?_;refine Wz ?_;refine bQ ?_;by_cases ab:S.length<4
 . have M:jO l C S L=(.bG,120):=(if_neg bj).trans ((if_neg Zbp).trans (if_pos ab));by_cases a7:S=[]
   . subst a7;rw[show lT 4 (List.map nI [])=.bG from rfl];refine aP fun K hK=>?_;simp only[↓zP,zJ,seval,E 2 rfl,g0];refine⟨fun _=>?_,fun h=>absurd (show((0:Int)<4) by decide) (by simp at h)⟩;refine⟨rfl,_,by simp only[↓zP,zR,seval,E 2 rfl];rfl,?_⟩;rw[M];exact Zas
   rw[show lT 4 (S.map nI)=.bK 0 4 (S.map nI) from if_neg (by simpa using a7)];refine aP fun K hK=>?_;simp only[↓zP,zJ,seval,E 2 rfl,g0,Ah];refine⟨fun _=>?_,fun h=>absurd ab A0⟩;refine⟨rfl,_,by simp only[↓zP,zR,seval,E 2 rfl];rfl,?_⟩;rw[M];exact Zas
 have a7:S≠[]:=fun h=>ab (by rw[h];decide);rw[show lT 4 (S.map nI)=.bK 0 4 (S.map nI) from if_neg (by simpa using a7)]
 have aN:bU C≠[]:=fun h=>a7 (Fc.2 fun q D=>by
  obtain⟨i,j,k,_,_,h',_⟩:=iB ((w.fl.mem q).1 D);have :C.length=0:=by rw[<-aX,h];rfl
  omega)
 rw[show lT 3 (bU C)=.bK 0 3 (bU C) from if_neg aN];refine bP ?_;simp only[↓zP,zJ,seval,Ah];refine⟨fun h=>absurd h A0,fun _=>?_⟩;refine bQ ?_;by_cases KZ:64<S.length
 . have M:jO l C S L=(.bG,2):=(if_neg bj).trans ((if_neg Zbp).trans ((if_neg ab).trans (if_pos KZ)));refine aP fun K hK=>?_;simp only[↓zP,zJ,seval,E 2 rfl,g0,Ah];refine⟨fun _=>?_,fun h=>absurd KZ A0⟩;refine⟨rfl,_,by simp only[↓zP,zR,seval,E 2 rfl];rfl,?_⟩;rw[M];exact Zas
 refine bP ?_;simp only[↓zP,zJ,seval,Ah];refine⟨fun h=>absurd h A0,fun _=>?_⟩;refine bQ ?_;have M:jO l C S L=(lT 3 (bU (jB C S L)),0):=(if_neg bj).trans ((if_neg Zbp).trans ((if_neg ab).trans (if_neg KZ)));rw[M]
 have b3:(List.replicate C.length [AV.bool false]).flatten=mk C.length (fun _=>false):=by
  have :∀n:Nat,(List.replicate n [AV.bool false]).flatten=List.replicate n (AV.bool false):=fun n=>by
   induction n with
   |zero=>rfl
   |succ n ih=>rw[Iq,Cb,ih];rfl
  rw[this];exact Et (by simp[mk]) fun k O Z=>by simp[mk]
 have aO:C.length<=2^40:=by omega
 refine bP ?_;simp only[↓zP,zJ,seval,aX,aI,aO,b3];refine bQ ?_;have yw:¬(0=H1.next):=by omega
 refine aP fun K hK=>?_;refine bP ?_;simp only[↓zP,zG,seval,Ah];refine bQ ?_;generalize ak:H1.next=a6 at *;refine bR [] (fun i _ H'=>H'.get 0=some (.cells [.bG] false)/\H'.get a6=some (.cells (mk C.length (fun k=>(S.take i).any fun q=>(L q).contains k)) false)/\a6<H'.next) S.length A0 A1 ?_ ?_ ?_ ?_ ?_
 . exact zq
 . exact zq
 . refine⟨by rw[aB.aJ,ak,if_neg yw];exact g0,by rw[aB.aJ,ak,if_pos rfl];rfl,by rw[aB.bJ,ak];omega⟩
 . rintro i P H2 F N o ⟨m0,ms,OQ⟩;have d:(S.map nI).getD i []=nI S[i]:=fT F;have ar:=Ag F;have D:=rS aj ((w.fl.mem _).1 ar);have ag:=w.po _ ar
   have vZ:∀k,((S.take (i+1)).any fun q=>(L q).contains k)=(((S.take i).any fun q=>(L q).contains k)||(L S[i]).contains k):=fun k=>by rw[Ao,Im];simp[F]
   simp only[vZ];generalize S[i]=q at *;have p4:(nI q).length=4:=rfl;have b6:=Qt (tag:=0) A1 aj (Ad _) ay D A1 ag;have aK:∀k∈L q,k<C.length:=fun k E=>(cJ.1 (ag.aGl E)).1
   have b9:(L q).length<2^30:=by obtain⟨s,r,m,e,W,h⟩:=ag.ex;rw[h,Ah,Bt];have O:=W.le;have Z:=Da (fun k=>decide (aH.dot q.1 (C.getD k V0)=q.2)) (List.range C.length);rw[Bt] at Z;have h3:(iF (fun i=>C.getD i V0) C.length q.1 q.2).length<=C.length:=Z;omega
   refine aM ?_;refine bP ?_;simp only[↓zP,zJ,seval,o,N 56 rfl,aI,Ah,F,d,oL p4];refine fQ ?_;have :=N 8 rfl;have := @dR;refine Wy ?_;refine bQ ?_;have aq:¬(0=H2.next):=A0;have an:¬(a6=H2.next):=A0;refine bR [] (fun j _ H'=>H'.get 0=some (.cells [.bG] false)/\H'.get a6=some (.cells (mk C.length (fun k=>((S.take i).any fun q=>(L q).contains k)||((L q).take j).contains k)) false)/\a6<H'.next) (L q).length A0 A1 ?_ ?_ ?_ ?_ ?_
   . exact zq
   . exact zq
   . refine⟨by rw[aB.aD,if_neg aq,aB.aJ,if_neg aq];exact m0,?_,by simp only[aB.bB,aB.bJ];omega⟩;rw[aB.aD,if_neg an,aB.aJ,if_neg an,ms];simp
   . rintro j f3 H3 Y lO e3 ⟨af,ad,Uw⟩;have aA:=oX Y;have vY:=aK _ (Ag Y)
     have az:∀k,((L q).take (j+1)).contains k=(((L q).take j).contains k||k==(L q)[j]):=fun k=>by rw[Eh];simp only[Eb,List.contains_iff_mem,Dr,Ao,Ai Y,Option.toList_some,Ar,Ca]
     simp only[az];generalize (L q)[j]=p at *;have b4:p+1<=C.length:=vY;have GG:=bCc (fun k=>((S.take i).any fun q=>(L q).contains k)||((L q).take j).contains k) vY;refine aM ?_;simp only[↓zP,zJ,seval,e3,lO 64 rfl,lO 10 rfl,N 10 rfl,aI,dR,Y,aA,vY,b4,ad,VP];refine⟨(if_neg A0).trans af,?_,Uw⟩;rw[GG];simp only[Bool.or_assoc]
   rintro f3 H3 lO ⟨af,ad,Uw⟩;rw[Ap] at ad;refine Tx ?_;exact⟨af,ad,Uw⟩
 rintro P H2 N ⟨m0,ms,OQ⟩;rw[Ap] at ms;refine Tx ?_;apply hK;clear hK K;have hP:∀k,(S.any fun q=>(L q).contains k)=iK S L k:=fun k=>rfl;simp only[hP] at ms;refine bP ?_;refine Tz ?_;refine bQ ?_;refine aP fun K hK=>?_;refine bP ?_;simp only[↓zP,zG,seval,N 8 rfl,aX];refine bQ ?_;have z0:¬(0=H2.next):=by omega
 have zs:¬(a6=H2.next):=by omega
 generalize ho:H2.next=z at *;refine bR [] (fun i _ H'=>H'.get 0=some (.cells [.bG] false)/\H'.get a6=some (.cells (mk C.length (iK S L)) false)/\z<H'.next/\∃v,H'.get z=some (.cells [v] false)/\Own H' 3 v (bU (((List.range i).filter (iK S L)).map fun k=>C.getD k V0))/\(((List.range i).filter (iK S L)).map (fun k=>C.getD k V0)=[]->v=.bG)) C.length A0 A1 ?_ ?_ ?_ ?_ ?_
 . exact zq
 . exact zq
 . refine⟨by rw[aB.aJ,ho,if_neg z0];exact m0,by rw[aB.aJ,ho,if_neg zs];exact ms,by rw[aB.bJ,ho];omega,.bG,by rw[aB.aJ,ho,if_pos rfl],.nil _ _,fun _=>rfl⟩
 . rintro i f3 H3 F lO e3 ⟨q0,qs,qn,v,qv,qo,qe⟩;have d:=cG F;have TK:C.getD i V0=C[i]:=by simp[List.getD,F]
   have b5:((List.range (i+1)).filter (iK S L)).map (fun k=>C.getD k V0)=((List.range i).filter (iK S L)).map (fun k=>C.getD k V0)++(if iK S L i then [C[i]] else []):=by
    rw[Dh,Iz,Cg];congr 1;simp only[Jp,Jx];split
    . rw[Bw,TK];rfl
    rfl
   have AE:(((List.range i).filter (iK S L)).map fun k=>C.getD k V0).length<=64:=by rw[Ah];have :=Da (iK S L) (List.range i);rw[Bt] at this;omega
   rw[b5];generalize ((List.range i).filter (iK S L)).map (fun k=>C.getD k V0)=els at *;generalize C[i]=x at *;have g:¬(0=H3.next):=A0;have ns:¬(a6=H3.next):=A0;have nb:¬(z=H3.next):=A0;have Rc:i+1<=C.length:=F;have ae:=bCb (iK S L) F;refine aM ?_;refine bP ?_;simp only[↓zP,zJ,seval,e3,lO 75 rfl,aI,aX,F,d,oL (aW x)];refine bQ ?_;generalize hX:(H3.alloc _).set H3.next _=G;have y0:G.get 0=some (.cells [.bG] false):=(by subst hX;rw[aB.aD,if_neg g,aB.aJ,if_neg g];exact q0);have ys:G.get a6=some (.cells (mk C.length (iK S L)) false):=(by subst hX;rw[aB.aD,if_neg ns,aB.aJ,if_neg ns];exact qs);have yv:G.get z=some (.cells [v] false):=(by subst hX;rw[aB.aD,if_neg nb,aB.aJ,if_neg nb];exact qv);have yx:=Kz hX;have yn:G.next=H3.next+1:=by subst hX;simp only[aB.bB,aB.bJ]
   have yo:Own G 3 v (bU els):=by refine vL qo A0 fun k O Z=>?_;subst hX;rw[aB.aD,if_neg A0,aB.aJ,if_neg A0];exact Z
   clear hX;generalize H3.next=r3 at *
   cases B:iK S L i with
   |false=>rw[B] at ae;simp only[↓zP,zJ,seval,lO 10 rfl,N 10 rfl,aI,F,Rc,ys,VP,ae];exact⟨y0,trivial,by omega,v,yv,yo,qe⟩
   |true=>
    rw[B] at ae;simp only[↓zP,zJ,seval,lO 10 rfl,N 10 rfl,aI,F,Rc,ys,VP,ae,lO 15 rfl,yv,yx,oL (aW x)];obtain⟨H5,z1,z2,z3,z4,z5⟩:=Has.push (.inr yo) (ys:=[cS x]) (bytes:=24) rfl ZbO;rw[eL];have w2:=(z4 z A0 (by rw[yv];simp)).trans yv;simp only[z1,bV,zJ,seval,w2];refine⟨(if_neg A0).trans ((z4 0 A0 (by rw[y0];simp)).trans y0),(if_neg A0).trans ((z4 a6 A0 (by rw[ys];simp)).trans ys),by omega,_,rfl,?_,fun h=>?_⟩
    . rw[show bU (els++[x])=bU els++[cS x] from by simp[bU]];exact .inr ⟨G.next,rfl,by simp only[aB.bB];omega,by rw[aB.aD,if_neg A0];exact z3⟩
    simp at h
 rintro f3 H3 lO ⟨q0,qs,qn,v,qv,qo,qe⟩;refine Tx ?_;apply hK;clear hK K;have hL:((List.range C.length).filter (iK S L)).map (fun k=>C.getD k V0)=jB C S L:=rfl;rw[hL] at qo qe;simp only[↓zP,zJ,seval,lO 15 rfl,lO 2 rfl,N 2 rfl,E 2 rfl,qv,q0];refine⟨rfl,_,by simp only[↓zP,zR,seval,lO 2 rfl,N 2 rfl,E 2 rfl];rfl,?_⟩;refine⟨_,2,rfl,fun t=>?_⟩
 exact Zap
variable{C:List aH.V}{S:List (aH.V×Int)}{L:aH.V×Int->List Nat}
theorem QG(w:wB C S L)(a:S≠[]):jB C S L≠[]:=by
 obtain⟨q,r,rfl⟩:=Ef a;obtain⟨s,n,m,e,W,h⟩:=(w.po q Ay).ex;have t:s∈L q:=by rw[h];exact Be.2 ⟨0,Bb.2 W.pos,rfl⟩
 have M:s<C.length:=(cJ.1 W.hs).1;intro X;have :C.getD s V0∈jB C (q::r) L:=Be.2 ⟨s,Fs.2 ⟨Bb.2 M,by simp[iK,t]⟩,rfl⟩;rw[X] at this;cases this
def Pd(l C:List aH.V)(S:List (aH.V×Int))(L:aH.V×Int->List Nat):Int:=
 if(jO l C S L).2=0/\jB C S L≠l then 3 else(jO l C S L).2
theorem VG{l:List aH.V}(h:(jO l C S L).2=0):S≠[]/\(jO l C S L).1=lT 3 (bU (jB C S L))/\l.length<=64:=by
 unfold jO at h ⊢;split at h
 . cases h
 split at h
 . cases h
 split at h
 . cases h
 split at h
 . cases h
 rename_i O Z B h4;rw[if_neg O,if_neg Z,if_neg B,if_neg h4];exact⟨fun e=>B (by rw[e];decide),rfl,by omega⟩
theorem VF(W:Nat.blt tag 2=true){l C:List aH.V}(Q:l.length<2^30)(u:Ord l C){S:List (aH.V×Int)}{L:aH.V×Int->List Nat}(w:wB C S L)(H:aB):
 Sg 101 [.agg [.bK tag 3 (bU l)]] H (.ret (.int .i64 (Pd l C S L))) H:=by
 refine So aRv Zav ?_ H;unfold aKj;dsimp only;have q:=fun H=>aKc W Q u w H;unfold Pd;have G:=VG (l:=l) (C:=C) (S:=S) (L:=L);generalize jO l C S L=o at *;obtain⟨j,f⟩:=o;dsimp only at q G ⊢;refine bP ?_;refine Ty ?_;refine fQ ?_;refine Wz ?_;refine bQ ?_;by_cases R:f=0
 . subst R;obtain⟨c,rfl,g⟩:=G rfl;have s:=QG w c;have p:lT 3 (bU (jB C S L))=.bK 0 3 (bU (jB C S L)):=if_neg (by simpa [bU] using s);rw[p]
   have D:(jB C S L).length<2^30:=by have d:C.length<=l.length:=sT C l (Gx (fun {a b} (h:jC a b) (e:a=b)=>jC.nv b Zbk) u.SL) fun v J=>(u.mem v).1 J;have :=Da (iK S L) (List.range C.length);rw[Bt] at this;simp only[jB,Ah];omega
   have X:((0:Int)==0)=true:=rfl;have i:=fun H=>aBo (t1:=0) (t2:=tag) rfl W D Q H;refine aP fun K hK=>?_;simp only[↓zP,zJ,seval,X];refine eI (i _) ?_;by_cases z:jB C S L=l
   . have hd:=Af z;simp only[↓zP,zJ,seval,hd];apply hK;clear hK K;refine Tz ?_;refine Rx ?_;rw[if_neg (fun h=>h.2 z)];rfl
   have hd:=Ac z;simp only[↓zP,zJ,seval,hd];refine Rx ?_;rw[if_pos ⟨trivial,z⟩];rfl
 have X:(f==0)=false:=Dc.2 R;refine bP ?_;simp only[↓zP,zG,seval,X];refine bQ ?_;refine Tz ?_;refine Rx ?_;rw[if_neg (fun h=>R h.1)];rfl
variable{r:Nat}{o:Bool}{H:aB}
theorem OZ{id:Nat}(V:H.get r=some (.cells [.bG] o)):Sg 324 [.yield id,.ref r 0] H (.ret (.iV [])) H:=by
 refine oS aSz (Ab rfl) ?_;unfold aLn;dsimp only;refine bP ?_;refine Wz ?_;refine bQ ?_;refine bR [] (fun i vs H'=>H'=H) 0 A1 A1 ?_ ?_ ?_ ?_ ?_
 . simp only[zB]
 . simp only[zB,Nat.reduceEqDiff];rfl
 . rfl
 . rintro i f H1 F;exact absurd F (Am _)
 rintro f H1 E rfl;refine⟨rfl,_,by simp only[zR];rfl,?_⟩;exact Za1
theorem ZY(H:aB):Sg 291 [.bG] H (.ret (.func (.func 324) [] [.ref H.next 0])) (H.alloc (.cells [.bG] false)):=by refine oS aSv (Ab rfl) ?_;unfold aLj;dsimp only;refine Wz ?_;refine⟨rfl,_,by simp only[↓zP,zR];rfl,?_⟩;exact⟨rfl,rfl⟩
theorem Rg(n:r<H.next)(V:H.get r=some (.cells [.bG] o)):
 ∃H',Sg 350 [.bG,.func (.func 324) [] [.ref r 0]] H (.ret .bG) H':=by
 suffices h:∃out H',out=.ret .bG/\Sg 350 [.bG,.func (.func 324) [] [.ref r 0]] H out H' by obtain⟨_,H',rfl,w⟩:=h;exact⟨H',w⟩
 refine qH fit aTa (Ab rfl) ?_;unfold aLo;dsimp only;refine bP ?_;simp only[↓zP,zJ,Nat.reduceLT];refine bQ ?_;refine aP fun K hK=>?_;refine bP ?_;refine Wy ?_;refine bQ ?_;have k:(jF (jF (jF (dY [.bG,.func (.func 324) [] [.ref r 0]]) 2 (.ref H.next 0)) 4 .bG) 6 (.func (.func 324) [] [.ref r 0])) 2=.ref H.next 0:=rfl;have a:(jF (jF (jF (dY [.bG,.func (.func 324) [] [.ref r 0]]) 2 (.ref H.next 0)) 4 .bG) 6 (.func (.func 324) [] [.ref r 0])) 6=.func (.func 324) [] [.ref r 0]:=rfl;generalize jF (jF (jF (dY [.bG,.func (.func 324) [] [.ref r 0]]) 2 (.ref H.next 0)) 4 .bG) 6 (.func (.func 324) [] [.ref r 0])=f at *;refine aM ?_;refine uL (by rw[iG];exact a) ?_;simp only[aB.bJ];generalize A:HU.mk [7] _ _=key
 refine⟨_,_,_,_,_,OZ (o:=o) (by rw[aB.aJ,if_neg Zag,aB.aJ,if_neg Zag,aB.aJ,if_neg A0];exact V),by rw[aB.aJ];simp;exact⟨rfl,rfl,rfl⟩,fun L N=>?_⟩
 obtain⟨u,P⟩:=N;show K f [.mark (H.next+1)] L;apply hK;clear hK K;have b0:L.get H.next=some (.cells [.bG] false):=by rw[P,if_neg A0];simp[aB.aJ];omega
 have b1:L.get (H.next+1)=some .AN:=by rw[P,if_neg A0];simp[aB.aJ]
 simp only[↓zP,zJ,Nat.reduceLT,k,b0];exact⟨b1,[.bG],rfl,rfl⟩
theorem WU(n:r<H.next)(V:H.get r=some (.cells [.bG] o)):
 ∃H',Sg 322 [.func (.func 324) [] [.ref r 0]] H (.ret .bG) H':=by
 obtain⟨H',w⟩:=Rg n V;refine⟨H',?_⟩;refine oS aSy (Ab rfl) ?_;unfold aLm;dsimp only;refine Wz ?_;refine⟨rfl,_,by simp only[↓zP,zR];rfl,?_⟩;exact Za1
theorem PS(n:r<H.next)(V:H.get r=some (.cells [.bG] o)):
 ∃H',Sg 290 [.func (.func 324) [] [.ref r 0],.func (.func 292) [] []] H (.ret .bG) H':=by
 obtain⟨H1,w⟩:=WU n V;refine⟨H1,?_⟩;refine oS aFq (Ab rfl) ?_;unfold aCr;dsimp only;simp only[↓zP,zJ,Nat.reduceLT,Nat.reduceEqDiff];refine eI (w) ?_;simp only[↓zP,zJ,Nat.reduceLT,Nat.reduceEqDiff];refine eI (nN Tryz.aIz rfl VZ 292 _) ?_;simp only[↓zP,zG,Nat.reduceEqDiff];refine⟨rfl,_,by simp only[↓zP,zR];rfl,?_⟩;exact Za1
theorem jl(H:aB):Sg 252 [.bG] H (.ret .bG) H:=by refine fA fit dZ aSr (Ab rfl) Zad ?_ H;unfold aLf;dsimp only;obtain⟨H1,w⟩:=PS (r:=0) (o:=false) (H:=(aB.mk 0 .nil).alloc (.cells [.bG] false)) A3 rfl;simp only[↓zP,zJ,Nat.reduceLT,Nat.reduceEqDiff];refine eI (ZY _) ?_;simp only[];have :=NQ;refine Wz ?_;refine⟨rfl,_,by simp only[↓zP,zR];rfl,?_⟩;exact⟨_,0,rfl,fun t=>rfl⟩
theorem aBw(H:aB):Sg 193 [.bG] H (.ret (.iV [.agg [.bG],.int .i64 120])) H:=by
 refine fA fit dZ aSj (Ab rfl) Zad ?_ H;unfold aKx;dsimp only;refine bP ?_;simp only[↓zP,zG,Nat.reduceLT];refine fQ ?_;simp only[↓zP,zJ,Nat.reduceLT,Nat.reduceEqDiff];refine⟨fun h=>absurd h A1,fun _=>?_⟩;refine bQ ?_;refine aP fun K hK=>?_;refine bP ?_;refine Wy ?_;refine bQ ?_;refine bR [] (fun i _ H=>H.get 0=some (.cells [.bG] false)) 0 A1 A1 ?_ ?_ ?_ ?_ ?_
 . simp only[zB]
 . simp only[zB,Nat.reduceEqDiff];rfl
 . simp only[zI]
 . rintro i f H1 F;exact absurd F (Am _)
 rintro f H1 E g0;simp only[↓zP];apply hK;clear hK K;refine bP ?_;have :=E 0 rfl;have :=jl;refine Wz ?_;refine fQ ?_;have :=Qs;refine Wz ?_;refine bQ ?_;refine aP fun K hK=>?_;simp only[↓zP,zJ,Nat.reduceLT,Nat.reduceEqDiff,Int.reduceLT,E 2 rfl,g0];refine⟨fun _=>?_,fun h=>absurd (show((0:Int)<4) by decide) (by simp at h)⟩;refine⟨rfl,_,by simp only[↓zP,zR,Nat.reduceEqDiff,E 2 rfl,g0];rfl,?_⟩;exact Zas
theorem SC(H:aB):Sg 101 [.agg [.bG]] H (.ret (.int .i64 120)) H:=by
 refine So aRv Zad ?_ H;unfold aKj;dsimp only;refine bP ?_;simp only[↓zP,zJ,Nat.reduceLT];refine fQ ?_;have :=aBw;refine Wz ?_;refine bQ ?_;have X:((120:Int)==0)=false:=by decide
 refine bP ?_;refine Wz ?_;refine bQ ?_;refine Wz ?_;refine⟨rfl,_,by simp only[↓zP,zR];rfl,?_⟩;rfl
def pC(p:Int×Int):List AV:=[.int .i64 p.1,.int .i64 p.2]
theorem Qq(p:Int×Int):(pC p).length=2:=rfl
theorem Vc(p:Int×Int):cP (pC p)=true:=by rfl
def zf(p q:Int×Int):Int:=orZ [xJ p.1 q.1,xJ p.2 q.2]
theorem Vd(p q:Int×Int):zf p q<0↔p.1<q.1\/(p.1=q.1/\p.2<q.2):=by
 unfold zf orZ xJ
 grind
theorem pq(p q:Int×Int)(H:aB):Sg 285 [.agg (pC p),.agg (pC q)] H (.ret (.int .i64 (zf p q))) H:=by
 refine So bKa (by simp only[sf,Vc]) ?_ H;unfold aXr;dsimp only;refine aP fun K hK=>?_;refine Wy ?_;apply hK;clear hK K;refine aP fun K hK=>?_;refine Dz ?_;simp only[↓zP,zG,seval,zD,zI,pC,AH];refine gV (kQ p.1 q.1 _) ?_;simp only[↓zP,zG,seval,zD,zI,AH];refine gV (kQ p.2 q.2 _) ?_;simp only[↓zP,zG,seval,zD,zI];have s:=aBy [xJ p.1 q.1,xJ p.2 q.2] A3;simp only[LN,sm] at s;refine Wy ?_;apply hK;clear hK K;refine Tx ?_
 (refine Rx ?_;rfl)
def pV(q:Int×Int):ES 2:=⟨[q.1,q.2],rfl⟩
def MF(x:ES 2):Int×Int:=(x.1.getD 0 0,x.1.getD 1 0)
theorem pz(x:ES 2):pV (MF x)=x:=by
 obtain⟨l,U⟩:=x
 match l,U with
 |[a,b],_=>rfl
theorem aMq(q:Int×Int):XG (pV q)=pC q:=rfl
theorem Vk:∀S:List (Int×Int),(oN (S.map pV)).map (AV.int .i64)=(S.map pC).flatten
 |[]=>rfl
 |q::S=>by have :=Vk S;simp only[oN,Bw,El,Cg,Cb] at this ⊢;rw[this];rfl
theorem bRz:Go.Sort.SWO (Go.Proofs.ltOf fun x y:ES 2=>zf (MF x) (MF y)) where
 irrefl x:=by simp[Go.Proofs.ltOf,Vd,Cd]
 trans x y z h1 h2:=by simp only[Go.Proofs.ltOf,Vd,Bs] at *;omega
 ntrans x y z h1 h2:=by grind[Go.Proofs.ltOf,Vd,decide_eq_false_iff_not]
theorem o9:CI Tryz.prog 284:=⟨_,Tryz.func284,by rfl,by rfl⟩
theorem aIw(d:List (ES 2))(hd:d.length<4611686018427387904):
 ∃d':List (ES 2),d'.Perm d/\(d'.Pairwise fun a b=>¬zf (MF b) (MF a)<0)/\∀(H:aB) (id:Nat) (r:Bool),H.get id=some (.cells ((oN d).map (AV.int .i64)) r)->
  Sg 284 [.sl id 2 0 d.length d.length,.func (.func 285) [] []] H (.ret (.iV [])) (H.set id (.cells ((oN d').map (AV.int .i64)) r)):=
 ID (fun _=>rfl) Tryz.aTh A1 Tryz.isAgg23 Tryz.sizeOf23 rfl o9 (pq (0,0) (0,0) ⟨0,.nil⟩).1 bRz (fun x y=>by
  have :=pq (MF x) (MF y) ⟨0,.nil⟩
  grind[aMq,pz]) d hd
def US(H:aB)(x:Nat)(v:AV)(l:List (Int×Int)):Prop:=
 (l=[]/\v=.bG)\/∃p,l≠[]/\v=.sl p 2 0 l.length l.length/\H.get p=some (.cells (l.map pC).flatten true)/\¬(x=p)/\p<H.next
variable{v:AV}{l:List (Int×Int)}{x:Nat}
theorem US.push(h:US H x v l)(i:x<H.next)(Q:l.length<2^30)(p:Int×Int):
 ∃q H',fM H 2 16 true v [pC p]=some (q,H')/\US H' x q (l++[p])/\H'.next=H.next+1/\H'.get x=H.get x:=by
 rcases h with ⟨rfl,rfl⟩|⟨a,s,rfl,d,O,Z⟩
 . exact⟨_,_,CN rfl A3,.inr ⟨H.next,by simp,rfl,by simp[aB.aJ],by omega,by simp⟩,by simp,by grind[aB.aJ]⟩
 have T:(l.map pC).flatten.length=l.length*2:=by rw[pU (sz:=2) (fun e z=>?_),Ah];obtain⟨x,_,rfl⟩:=Be.1 z;rfl
 refine⟨_,_,CO d T rfl (by grind) A1,.inr ⟨H.next,by simp,by simp,?_,by omega,by simp⟩,by simp,by grind[aB.aJ,aB.bB,aB.aD]⟩;simp[aB.aJ,aB.bB]
theorem US.behind{H':aB}(h:US H x v l)(A:H'.next=H.next+1)(M:∀j,j<H.next->H'.get j=H.get j):US H' H.next v l:=by
 rcases h with h|⟨p,G,O,Z,B,h4⟩
 . exact .inl h
 exact .inr ⟨p,G,O,(M _ h4).trans Z,by omega,by omega⟩
def ZD(l:List Nat)(j:Nat):List (Int×Int):=(List.range j).flatMap fun i=>if l.getD i 0<l.getD ((i+1)%l.length) 0 then [((l.getD i 0:Int),(l.getD ((i+1)%l.length) 0:Int))] else []
def JW(S:List (aH.V×Int))(L:aH.V×Int->List Nat):List (Int×Int):=S.flatMap fun q=>ZD (L q) (L q).length
theorem aBn(ht:Nat.blt tag 2=true){l:List aH.V}{M:Nat}(U:∀v∈l,bT M v)(hM:M<=2^18)(Q:l.length<=64){S:List (aH.V×Int)}{L:aH.V×Int->List Nat}(w:wB l S L)(cU:S≠[])(X:S.length<=64):
 ∃E:List (Int×Int),E.Perm (JW S L)/\(E.Pairwise fun a b=>¬zf b a<0)/\∀H,Sg 241 [.agg [.bK tag 3 (bU l)]] H (.ret (lT 2 (E.map pC))) H:=by
 have a7:∀q∈S,(L q).length<=64:=fun q D=>by obtain⟨s,r,m,e,W,h⟩:=(w.po q D).ex;rw[h,Ah,Bt];have O:=W.le;have Z:=Da (fun k=>decide (aH.dot q.1 (l.getD k V0)=q.2)) (List.range l.length);rw[Bt] at Z;have B:(iF (fun i=>l.getD i V0) l.length q.1 q.2).length<=l.length:=Z;omega
 have ae:∀T:List (aH.V×Int),(∀q∈T,(L q).length<=64)->(JW T L).length<=T.length*64:=fun T=>by
  induction T with
  |nil=>intro _;simp[JW]
  |cons q T ih=>intro h;have O:=ih fun x C=>h x (Ax _ C);have Z:=h q Ay;have B:=nT (fun i=>if(L q).getD i 0<(L q).getD ((i+1)%(L q).length) 0 then [((((L q).getD i 0:Nat):Int),(((L q).getD ((i+1)%(L q).length) 0:Nat):Int))] else []) 1 (fun i=>by split<;>simp) (List.range (L q).length);rw[Bt,Df] at B;have h4:(ZD (L q) (L q).length).length<=(L q).length:=B;simp only[JW,El,Aq,As,Bn,Fh] at O ⊢;omega
 have an:∀i,(JW (S.take i) L).length<2^29:=fun i=>by
  have O:=ae (S.take i) fun q D=>a7 q (Cu D);have Z:(S.take i).length<=S.length:=by rw[Fb];omega
  omega
 obtain⟨d',q1,q2,q3⟩:=aIw ((JW S L).map pV) (by
  have O:=ae S a7;rw[Ah]
  omega)
 refine⟨d'.map MF,?_,?_,fun H=>?_⟩
 . have O:=q1.map MF
   rwa [Ea,show(MF∘pV)=id from rfl,Gn] at O
 . rw[Ev];exact q2
 refine fA fit dZ bIz (Ab rfl) ZbC ?_ H;unfold aWq;dsimp only;refine aP fun K hK=>?_;refine Wy ?_;apply hK;clear hK K;refine aP fun K hK=>?_;refine Tz ?_;apply hK;clear hK K;have u:=fun H=>EP ht U hM Q w cU H;refine aP fun K hK=>?_;refine aP fun K2 dJ=>?_;simp only[↓zP,zG,seval,zI];refine eI (u _) ?_;simp only[↓zP,zG,seval,zI,Ah];apply dJ;clear dJ K2;refine bR [3] (fun i vs H'=>∃v x,vs=[v]/\US H' x v (JW (S.take i) L)/\1<=H'.next) S.length A0 A1 ?_ ?_ ?_ ?_ ?_
 . exact zq
 . exact zq
 . exact⟨.bG,0,by simp only[sm,zB,seval],.inl ⟨rfl,rfl⟩,by simp only[zI,seval]⟩
 . rintro i f H1 F hk e1 ⟨v,x,J,hr,hn⟩;simp only[zM] at J;have d:(S.map (cX L)).getD i []=cX L S[i]:=fT F
   have vZ:JW (S.take (i+1)) L=JW (S.take i) L++ZD (L S[i]) (L S[i]).length:=by simp only[JW];rw[Ao,Gi];simp[F]
   have Mk:=an i;have ar:=a7 _ (Ag F);rw[vZ];generalize JW (S.take i) L=E0 at *;generalize S[i]=q at *;have p5:(cX L q).length=5:=rfl;have pa:(cX L q).getD 4 aC=.bK 0 1 (xV (L q)):=rfl;refine aM ?_;refine aP fun K2 dJ=>?_;simp only[↓zP,zG,seval,zI,e1,hk 10 rfl,aI,Ah,F,d,oL p5];apply dJ;clear dJ K2;generalize hX:(H1.alloc _).set H1.next _=G;have yn:G.next=H1.next+1:=(by subst hX;simp only[aB.bB,aB.bJ]);have y5:=Kz hX;have yr:US G H1.next v E0:=hr.behind yn fun j Y=>by subst hX;rw[aB.aD,if_neg A0,aB.aJ,if_neg A0]
   clear hX;generalize H1.next=r5 at *;refine aP fun K2 dJ=>?_;have := @dR;refine Ww ?_;apply dJ;clear dJ K2;refine bR [3] (fun j vs H'=>∃v,vs=[v]/\US H' r5 v (E0++ZD (L q) j)/\r5<H'.next/\H'.get r5=some (.cells (cX L q) false)) (L q).length A0 A1 ?_ ?_ ?_ ?_ ?_
   . exact zq
   . exact zq
   . exact⟨v,by simp only[sm,zB,seval];rw[J],by simpa [ZD] using yr,by omega,y5⟩
   . rintro j P H2 Y N o ⟨v2,rT,bx,I,A⟩;simp only[zM] at rT;refine aM ?_;refine aP fun K2 dJ=>?_;have aq:=oX Y;have :=N 17 rfl;refine Ww ?_;apply dJ;clear dJ K2;refine aP fun K2 dJ=>?_;refine Dz ?_;have wj:IntKind.i64.wrap ((j:Int)+1)=((j+1:Nat):Int):=(wrap_i64 A0 A0).trans A0;have nz:¬(((L q).length:Int)=0):=A0;have t:(j+1)%(L q).length<(L q).length:=Bz _ A0;have tm:((j+1:Nat):Int).tmod ((L q).length:Int)=(((j+1)%(L q).length:Nat):Int):=rfl;have aj:=oX t
     have ab:ZD (L q) (j+1)=ZD (L q) j++(if(L q)[j]<(L q)[(j+1)%(L q).length] then [((((L q)[j]:Nat):Int),(((L q)[(j+1)%(L q).length]:Nat):Int))] else []):=by simp only[ZD];rw[Dh,Gi];simp[List.getD,Y,t]
     have az:(ZD (L q) j).length<=j:=by have :=nT (fun i=>if(L q).getD i 0<(L q).getD ((i+1)%(L q).length) 0 then [((((L q).getD i 0:Nat):Int),(((L q).getD ((i+1)%(L q).length) 0:Nat):Int))] else []) 1 (fun i=>by split<;>simp) (List.range j);rw[Bt,Df] at this;exact this
     have a6:E0++ZD (L q) (j+1)=(E0++ZD (L q) j)++(if(L q)[j]<(L q)[(j+1)%(L q).length] then [((((L q)[j]:Nat):Int),(((L q)[(j+1)%(L q).length]:Nat):Int))] else []):=(by rw[ab,Di]);have ad:(E0++ZD (L q) j).length<2^30:=(by rw[Aq];omega);generalize ay:E0++ZD (L q) j=E1 at bx a6 ad;clear ab;simp only[↓zP,zG,seval,zD,zI,N 5 rfl,A,p5,pa,aI,dR,wj,nz,tm,t,aj];apply dJ;clear dJ K2;generalize (L q)[(j+1)%(L q).length]=b at *;generalize (L q)[j]=a at *;by_cases BY:a<b
     . have hd:decide ((a:Int)<(b:Int))=true:=Af A0;obtain⟨v',H5,n,z,z3,z4⟩:=bx.push I ad ((a:Int),(b:Int));have af:[AV.int .i64 (a:Int),.int .i64 (b:Int)]=pC ((a:Int),(b:Int)):=rfl;simp only[↓zP,zG,seval,zI,hd,rT,af,Qq];rw[eL];simp only[n,bV,seval];rw[a6,if_pos BY];exact⟨v',rfl,z,by omega,z4.trans A⟩
     have hd:decide ((a:Int)<(b:Int))=false:=Ac A0;simp only[↓zP,zG,seval,zI,hd,rT];rw[a6,if_neg BY,Bx];exact⟨v2,rfl,bx,I,A⟩
   rintro P H2 N ⟨v2,rT,bx,I,A⟩;simp only[zM] at rT;refine Tx ?_;exact⟨v2,r5,by simp only[sm,seval];rw[rT],bx,by omega⟩
 rintro f H1 hk ⟨v,x,J,hr,hn⟩;simp only[zM] at J;rw[Ap] at hr;refine Tx ?_;apply hK;clear hK K;have ma:JW S L≠[]->(JW S L).map pV≠[]:=fun h e=>h (by simpa using e)
 rcases hr with ⟨hE,rfl⟩|⟨p,ak,rfl,d,C,b7⟩
 . refine aP fun K hK=>?_;simp only[↓zP,zG,seval,J];refine eI (nN Tryz.aTh rfl o9 285 _) ?_;refine Tx ?_;apply hK;clear hK K;refine Wz ?_;refine Rx ?_
   have Ra:d'=[]:=by rw[hE] at q1;exact List.Perm.eq_nil q1
   rw[Ra];exact⟨_,0,rfl,fun nw=>rfl⟩
 have ag:H1.get p=some (.cells ((oN ((JW S L).map pV)).map (AV.int .i64)) true):=by rw[d,Vk]
 have R:=q3 H1 p true ag;rw[Ah] at R;refine aP fun K hK=>?_;refine Wy ?_;apply hK;clear hK K;refine Wz ?_;have sN:d'=(d'.map MF).map pV:=by rw[Ea];exact(Dk (g:=id) (fun x _=>pz x)).trans (Gn d') |>.symm
 have y:((d'.map MF).map pC).length=(JW S L).length:=by rw[Ah,Ah,q1.length_eq,Ah]
 rw[show(oN d').map (AV.int .i64)=((d'.map MF).map pC).flatten from by rw[<-Vk,<-sN]];refine Rx ?_;have c:¬((d'.map MF).map pC=[]):=fun h=>ak (Cl (by rw[<-y,h];rfl));refine⟨_,0,rfl,fun nw=>?_⟩;rw[<-y,lT,if_neg c];refine Yh ZaK (fun e he=>?_) (dQ Vc _) nw;obtain⟨q,_,rfl⟩:=Be.1 he;rfl
def GQ(l:List aH.V)(p:Nat×Nat):aH.V:=aH.sub (l.getD p.2 V0) (l.getD p.1 V0)
def pN(p:Nat×Nat):Int×Int:=(p.1,p.2)
theorem uj(W:Nat.blt tag 2=true){l:List aH.V}{M:Nat}(U:∀v∈l,bT M v)(g:M<=2^18){E:List (Nat×Nat)}(j:E.length<=2^20)(o:E≠[])(Y:∀p∈E,p.1<l.length/\p.2<l.length)
 (w:∀H,Sg 241 [.agg [.bK tag 3 (bU l)]] H (.ret (lT 2 ((E.map pN).map pC))) H) (H:aB):
 Sg 183 [.agg [.bK tag 3 (bU l)]] H (.ret (.bK 0 3 (bU (E.map (GQ l))))) H:=by
 refine fA fit dZ bHo (Ab rfl) Zav ?_ H;unfold aVg;dsimp only;have c:∀k (h:k<l.length),l.getD k V0=l[k]:=fun k h=>by simp[List.getD,h]
 rw[show lT 2 ((E.map pN).map pC)=.bK 0 2 ((E.map pN).map pC) from if_neg (by simpa using o)] at w;refine bP ?_;refine Ty ?_;refine fQ ?_;refine Tz ?_;refine bQ ?_;refine aP fun K hK=>?_;refine bP ?_;refine Ty ?_;refine eI (w _) ?_;simp only[↓zP,zG,seval,Ah];refine bQ ?_;refine bR [3] (fun i vs H'=>∃v,vs=[v]/\Own H' 3 v (bU ((E.take i).map (GQ l)))/\1<=H'.next/\H'.get 0=some (.cells [.bK tag 3 (bU l)] false)) E.length A0 A1 ?_ ?_ ?_ ?_ ?_
 . exact zq
 . exact zq
 . exact ZaA
 . rintro i f H1 F N T ⟨v,J,S,A,g0⟩;simp only[zM] at J;have d:((E.map pN).map pC).getD i []=pC (pN E[i]):=by rw[Ea];exact fT F
   obtain⟨I,X⟩:=Y _ (Ag F)
   have t:(E.take (i+1)).map (GQ l)=(E.take i).map (GQ l)++[GQ l E[i]]:=by rw[Ao,Cg];simp[F]
   have C:((E.take i).map (GQ l)).length<=2^20:=Zag;rw[t];generalize (E.take i).map (GQ l)=els at *;generalize E[i]=p at *;have u:¬(0=H1.next):=A0;have q:=cG I;have L:=cG X;have y:=U _ (Ag I);have x:=U _ (Ag X);have D:aH.sub l[p.2] l[p.1]=GQ l p:=(by simp only[GQ,c p.2 X,c p.1 I]);have Q:(pC (pN p)).getD 0 aC=.int .i64 (p.1:Int):=rfl;have q1:(pC (pN p)).getD 1 aC=.int .i64 (p.2:Int):=rfl;refine aM ?_;refine bP ?_;simp only[↓zP,zJ,seval,T,N 7 rfl,aI,Ah,F,d,oL (Qq (pN p))];refine bQ ?_;generalize hX:(H1.alloc _).set H1.next _=G;have e:G.get 0=some (.cells [.bK tag 3 (bU l)] false):=ZbY;have m:G.get H1.next=some (.cells (pC (pN p)) false):=(by subst hX;rw[aB.aD,if_pos rfl]);have un:G.next=H1.next+1:=by subst hX;simp only[aB.bB,aB.bJ]
   have R:Own G 3 v (bU els):=by refine vL S A0 fun k O Z=>?_;subst hX;rw[aB.aD,if_neg A0,aB.aJ,if_neg A0];exact Z
   clear hX;obtain⟨a,n,z,b,r,B⟩:=Has.push (.inr R) (ys:=[cS (GQ l p)]) (bytes:=24) rfl ZbO;generalize H1.next=r1 at *;refine Dz ?_;simp only[↓zP,zJ,seval,zD,N 1 rfl,J,e,m,Qq,Q,q1,AH,aI,aX,I,X,q,L,oL (aW l[p.1]),oL (aW l[p.2])];refine gV (MG x y A0 _) ?_;rw[D];simp only[↓zP,zJ,seval,zD,oL (aW (GQ l p))];rw[eL];simp only[n,bV,seval];rw[show bU (els++[GQ l p])=bU els++[cS (GQ l p)] from by simp[bU]];exact⟨by omega,_,rfl,.inr ⟨G.next,rfl,by omega,b⟩,by omega,(r 0 A0 (by rw[e];simp)).trans e⟩
 rintro f H1 N ⟨v,J,S,A,g0⟩;simp only[zM] at J;rw[Ap] at S;refine Tx ?_;apply hK;simp only[↓zP,zG,seval,J];refine Rx ?_;refine⟨v,0,rfl,fun nw=>?_⟩;have s:bU (E.map (GQ l))≠[]:=by simpa [bU] using o
 rcases S with ⟨_,h⟩|⟨k,rfl,O,Z⟩
 . exact absurd h s
 have P:fK (bU (E.map (GQ l)))=true:=dQ cD _;simp[iH,kK,P,EK]
end Go.Proofs.YtogfcjbgeebfkaaGreatDoor
namespace Go.Proofs.YtogfcjbgeebfkaaGreatDoor
open Go Go.Av Go.aH Go.iW
theorem vJ{z:Int}(h:z.natAbs<2^250):norm z=some z:=by
 have :(2:Nat)^250<W^16:=by decide
 unfold norm
 grind
variable{A B:Nat}
theorem vI{x y:Int}(C:x.natAbs<=A)(Q:y.natAbs<=B)(h:A*B<2^250):oD (some x) (some y)=some (x*y):=vJ (by
 have :=bY C Q
 omega)
theorem XF{v w:aH.V}(J:bT A v)(L:bT B w)(h:3*(A*B)<2^240):smO (fun i=>some (v.at i)) (fun i=>some (w.at i)) 3=some (aH.dot v w):=by
 have e:A*B<2^250:=by omega
 have a:=bY J.1 L.1;have R:=bY J.2.1 L.2.1;have Y:=bY J.2.2 L.2.2;simp only[smO,V.at];rw[vI J.1 L.1 e,vI J.2.1 L.2.1 e,vI J.2.2 L.2.2 e];simp only[oI];rw[vJ (show(0+v.x*w.x).natAbs<2^250 by omega)];simp only;rw[vJ (show(0+v.x*w.x+v.y*w.y).natAbs<2^250 by omega)];simp only;rw[vJ (show(0+v.x*w.x+v.y*w.y+v.z*w.z).natAbs<2^250 by omega)];simp[aH.dot]
theorem Zs{v w:aH.V}(J:bT A v)(L:bT B w)(h:3*(A*B)<2^240){i:Nat}(F:i<3):Zq (fun i=>some (v.at i)) (fun i=>some (w.at i)) i=some ((aH.bC v w).at i):=by
 have e:A*B<2^250:=by omega
 have key:∀a b c d:Int,a.natAbs<=A->b.natAbs<=B->c.natAbs<=A->d.natAbs<=B->oI (oD (some a) (some b)) (wH (oD (some c) (some d)))=some (a*b -c*d):=fun a b c d O Z f h4=>by rw[vI O Z e,vI f h4 e];have g:=bY O Z;have R:=bY f h4;simp only[wH,oI];rw[vJ A0,Int.sub_eq_add_neg]
 match i,F with
 |0,_=>exact key v.y w.z v.z w.y J.2.1 L.2.2 J.2.2 L.2.1
 |1,_=>exact key v.z w.x v.x w.z J.2.2 L.1 J.1 L.2.2
 |2,_=>exact key v.x w.y v.y w.x J.1 L.2.1 J.2.1 L.1
end Go.Proofs.YtogfcjbgeebfkaaGreatDoor
