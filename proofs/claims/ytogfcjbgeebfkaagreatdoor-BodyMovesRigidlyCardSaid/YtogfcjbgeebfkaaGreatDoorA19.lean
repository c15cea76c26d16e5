/-
  Part of the proof of statement 9
-/
import Derived.Test.YtogfcjbgeebfkaaGreatDoorA17
import Derived.Test.YtogfcjbgeebfkaaGreatDoorA18
import Derived.Test.YtogfcjbgeebfkaaGreatDoorA11
set_option linter.unusedSimpArgs false
set_option linter.unusedVariables false
set_option maxRecDepth 100000
set_option maxHeartbeats 16000000
namespace Go.Proofs.YtogfcjbgeebfkaaGreatDoor
open Go Go.Av Go.aC
attribute [local congr] aX aQ aR aL bA aW aS aG bB
attribute [local irreducible] FC bT eI
theorem QE(x m:Int)(p:m.natAbs<2^62)(H:aA):Sg 53 [.int .i64 x,.int .i64 m] H (.ret (.bool (decide (x>m)||decide (x< -m)))) H:=by
 refine So bQo Zac ?_ H;unfold W53;dsimp only;have a:IntKind.i64.wrap (0 -m)= -m:=(wrap_i64 A0 A0).trans A0;refine bP ?_;refine Tz ?_;refine bQ ?_;by_cases h:x>m
 . have X:=Ag h;simp only[↓zP,zJ,seval,X];exact ZaD
 have X:=Ab h;simp only[↓zP,zJ,seval,X,a];exact ZaD
theorem aCh{t1 t2:Nat}(O:Nat.blt t1 2=true)(Z:Nat.blt t2 2=true){a b:List aC.V}(I:a.length<2^30)(X:b.length<2^30)(H:aA):
 Sg 194 [.bJ t1 3 (bR a),.bJ t2 3 (bR b)] H (.ret (.bool (decide (a=b)))) H:=by
 refine So bIb (by simp only[sf,cT O,cT Z]) ?_ H;unfold aVx;dsimp only;refine bP ?_;refine Tz ?_;refine bQ ?_;refine aM fun K hK=>?_;by_cases U:a.length=b.length
 . have A:((a.length:Int) != (b.length:Int))=false:=by simp[U]
   simp only[↓zP,zJ,seval,aU,A];apply hK;clear hK K;refine aM fun K hK=>?_;refine bP ?_;refine Ty ?_;refine bQ ?_;refine bS [] (fun i vs H=>a.take i=b.take i) a.length A0 A1 ?_ ?_ ?_ ?_ ?_
   . exact zq
   . exact ZbM
   . rfl
   . rintro i f H1 F E T j;have c:i<b.length:=A0;have s:=cH F;have L:=cH c;refine aJ ?_;refine bP ?_;refine Wy ?_;refine fW ?_;refine Dz ?_;simp only[↓zP,zJ,seval,zD,E 0 rfl,E 1 rfl,aD,aU,F,c,s,L,oL (aT a[i]),oL (aT b[i]),oZ];refine bQ ?_;by_cases B:a[i]=b[i]
     . have o:(!decide (a[i]=b[i]))=false:=(by simp[B]);simp only[↓zP,zG,seval,o];rw[Ao,Ao,j,Af F,Af c,B]
     have o:(!decide (a[i]=b[i]))=true:=(by simp[B]);refine Wy ?_;refine Rx ?_;rw[Ab]
     . rfl
     rintro rfl;exact B rfl
   rintro f H1 E j;rw[Aq,U,Aq] at j;refine Tx ?_;apply hK;refine Tz ?_;refine Rx ?_;rw[Ag j];rfl
 have A:((a.length:Int) != (b.length:Int))=true:=by simp;omega
 simp only[↓zP,zJ,seval,aU,A];refine Rx ?_;rw[Ab]
 . rfl
 rintro rfl;exact U rfl
theorem RI(H:aA):Sg 191 [.bE] H (.ret .bE) H:=by
 refine eP fit eE aSx (Ai rfl) Zac ?_ H;unfold aLn;dsimp only;refine bP ?_;refine Tz ?_;refine fW ?_;refine Ty ?_;refine bQ ?_;refine aM fun K hK=>?_;refine bP ?_;refine Ty ?_;refine bQ ?_;refine bS [] (fun i _ H=>H.get 0=some (.map [])/\1<=H.next) 0 A1 A1 ?_ ?_ ?_ ?_ ?_
 . exact zq
 . exact zq
 . exact⟨rfl,Ae _⟩
 . rintro i f H F;exact absurd F (Al _)
 rintro f H E ⟨a,V⟩;refine Tx ?_;apply hK;clear hK K;refine bP ?_;refine Tz ?_;refine bQ ?_;refine aM fun K hK=>?_;refine bP ?_;simp only[↓zP,zG,seval,E 3 rfl];refine Np A1 (by simp only[↓zP,seval]) a fun h c A O P=>?_;refine Tx ?_;refine bQ ?_;obtain rfl:h=[]:=Cm O;generalize b:H.next=q at *;refine aJ ?_;refine kJ [10] (fun m vs H'=>vs=[.bE]/\H'.get q=some (.iter 0 A c [])/\H'.get 0=some (.uW [] [] c A)) 0 (by rfl) ?_ ?_
 . refine⟨by simp only[sm,zB,seval],by simp only[seval,zI,b],?_⟩;simp only[seval,zI,b];rw[if_neg A0]
 rintro m s w N ⟨J,e,g0⟩;simp only[zM] at J;refine bP ?_;refine Tx ?_;refine PW A1 (by simp only[↓zP,seval,N 73 rfl]) e g0 (fun W=>?_) fun j Y g=>absurd Y (Al _);refine Tz ?_;refine bQ ?_;refine Tz ?_;apply hK;clear hK K;simp only[↓zP,zG,seval,J];refine fC (nP Tryz.aJr rfl Vk 249 _) ?_;simp only[↓zP,zG,seval,J];refine Rx ?_;exact⟨_,0,rfl,fun d=>rfl⟩
def ey(v:aC.V):Bool:=(List.range 3).all fun i=>decide (¬(v.at i>262144)/\¬(v.at i< -262144))
theorem Lh{v:aC.V}:ey v=true↔bN (2^18) v:=by
 unfold ey bN;simp only[Bh,Ax,Br];constructor
 . intro h;have o:=h 0 A1;have O:=h 1 A1;have Z:=h 2 A1;simp only[V.at] at o O Z;omega
 intro h i F
 match i,F with
 |0,_=>simp only[V.at];omega
 |1,_=>simp only[V.at];omega
 |2,_=>simp only[V.at];omega
def mk(n:Nat)(P:Nat->Bool):List AV:=(List.range n).map fun k=>AV.bool (P k)
theorem Qq(n:Nat)(P:Nat->Bool):(mk n P).length=n:=by simp[mk]
variable{n:Nat}
theorem bBz(P:Nat->Bool){k:Nat}(h:k<n):(mk n P).getD k aB=.bool (P k):=by simp[mk,List.getD,h]
theorem bCa(P:Nat->Bool){p:Nat}(h:p<n):(mk n P).take p++[AV.bool true]++(mk n P).drop (p+1)=mk n (fun k=>P k||k==p):=by
 refine Fh (by simp[mk];omega) fun k O Z=>?_;rw[Qq] at Z;simp only[Dg,List.getElem_append,Et,Qq,Ba,Ca];by_cases E:k<p
 . rw[dif_pos A0];simp[mk];omega
 rw[dif_neg A0];by_cases N:k=p
 . subst N;rw[dif_pos A0];simp[mk]
 rw[dif_neg A0];simp only[mk,List.getElem_drop,Cr,Hq];have :p+1+(k -min p n -(0+1))=k:=by omega
 rw[this];simp[N]
def gV(S:List (aC.V×Int))(L:aC.V×Int->List Nat)(k:Nat):Bool:=S.any fun q=>(L q).contains k
def gZ(C:List aC.V)(S:List (aC.V×Int))(L:aC.V×Int->List Nat):List aC.V:=((List.range C.length).filter (gV S L)).map fun k=>C.getD k V0
def iW(l C:List aC.V)(S:List (aC.V×Int))(L:aC.V×Int->List Nat):AV×Int:=
 if 64<l.length then(.bE,2) else if l.all ey=false then(.bE,1) else if S.length<4 then(.bE,120) else if 64<S.length then(.bE,2) else(mB 3 (bR (gZ C S L)),0)
variable{tag:Nat}
theorem aKv(ht:Nat.blt tag 2=true){l C:List aC.V}(Q:l.length<2^30)(hC:Ord l C){S:List (aC.V×Int)}{L:aC.V×Int->List Nat}(u:vJ C S L)(H:aA):
 Sg 193 [.bJ tag 3 (bR l)] H (.ret (.jS [.agg [(iW l C S L).1],.int .i64 (iW l C S L).2])) H:=by
 refine eP fit eE aSy (Ai rfl) Za1 ?_ H;unfold aLo;dsimp only;refine bP ?_;refine Tz ?_;refine bQ ?_;refine aM fun K hK=>?_;simp only[↓zP,zJ,seval,aU];refine⟨fun h=>?_,fun b1=>?_⟩
 . have Xn:64<l.length:=by omega
   refine Rx ?_;rw[show iW l C S L=(.bE,2) from if_pos Xn];exact⟨_,2,rfl,fun d=>rfl⟩
 have Xn:¬(64<l.length):=by omega
 apply hK;clear hK K;refine aM fun K hK=>?_;refine bP ?_;refine Ty ?_;refine bQ ?_;refine bS [] (fun i _ H=>(∀v∈l.take i,ey v=true)/\H.get 0=some (.cells [.bE] false)/\1<=H.next) l.length A0 A1 ?_ ?_ ?_ ?_ ?_
 . exact zq
 . exact ZbM
 . exact Zb7
 . rintro i f H1 F E e1 ⟨iG,g0,A⟩;have t:=cH F;have vW:=Ac F
   have hx:∀v,v∈l.take (i+1)->v∈l.take i\/v=l[i]:=fun v J=>by
    exact Zam
   generalize l[i]=x at *;have nx:¬(0=H1.next):=A0;refine aJ ?_;refine bP ?_;simp only[↓zP,zJ,seval,e1,E 22 rfl,aD,aU,F,t,oL (aT x)];refine fW ?_;simp only[↓zP,zJ,seval,oL (aT x)];refine bQ ?_;refine cM [] (fun j _ H=>(∀c,c<j->¬(x.at c>262144)/\¬(x.at c< -262144))/\H.get 0=some (.cells [.bE] false)/\1<=H.next) 3 A1 rfl A1 ?_ ?_ ?_ ?_
   . exact zq
   . refine⟨fun c R=>absurd R (Al _),?_,?_⟩
     . rw[aA.aH,if_neg nx,aA.aI,if_neg nx];exact g0
     simp only[aA.aZ,aA.bK];omega
   . rintro j f2 w Y N P ⟨R,FP,Le⟩;have OH:j<=2:=by omega
     have z:(x.at j>262144\/x.at j< -262144)->l.all ey=false:=fun h=>by rw[<-Ew,Bh];intro ha;have :=ha x vW;simp only[ey,Bh,Ax,Br] at this;have :=this j Y;omega
     refine aJ ?_;by_cases c1:x.at j>262144
     . have d1:=Ag c1;simp only[↓zP,zJ,seval,P,N 28 rfl,aD,iC x Y,aT,Y,OH,d1,N 2 rfl,E 2 rfl,FP];exact ZaF
     have d1:=Ab c1;by_cases c2:x.at j< -262144
     . have d2:=Ag c2;simp only[↓zP,zJ,seval,P,N 28 rfl,aD,iC x Y,aT,Y,OH,d1,d2,N 2 rfl,E 2 rfl,FP];exact ZaF
     have d2:=Ab c2;simp only[↓zP,zJ,seval,P,N 28 rfl,aD,iC x Y,aT,Y,OH,d1,d2];refine⟨fun c h=>?_,FP,Le⟩;by_cases az:c=j
     . subst az;exact⟨c1,c2⟩
     exact R c A0
   rintro f2 w N ⟨R,FP,Le⟩;exact ZaZ
 rintro f H1 E ⟨iG,g0,A⟩;rw[Aq] at iG;have fG:l.all ey=true:=Bh.2 iG;refine Tx ?_;apply hK;clear hK K;have ag:∀v∈C,bN (2^18) v:=fun v J=>Lh.1 (iG v ((hC.mem v).1 J))
 have aq:C.length<=64:=by have :=tL C l (Gv (fun {a b} (h:iO a b) (e:a=b)=>iO.o5 b Zby) hC.Ra) fun v J=>(hC.mem v).1 J;omega
 have tH:∀H,Sg 191 [mB 3 (bR C)] H (.ret (mB 4 (S.map nJ))) H:=fun H=>by
  by_cases R:C=[]
  . subst R
    have y:S=[]:=Fj.2 fun q D=>by obtain⟨i,j,k,_,_,h,_⟩:=iB ((u.fl.mem q).1 D);exact absurd h (Al _)
    subst y;exact RI H
  rw[show mB 3 (bR C)=.bJ 0 3 (bR C) from if_neg (by simpa [bR] using R)];exact Tq A1 ag (Ae _) aq u.fl H
 have ee:∀H,Sg 252 [.bJ tag 3 (bR l)] H (.ret (mB 3 (bR C))) H:=aBj ht A0 hC;refine bP ?_;have :=E 0 rfl;refine Wz ?_;refine fW ?_;refine Wz ?_;refine bQ ?_;by_cases ab:S.length<4
 . have hO:iW l C S L=(.bE,120):=(if_neg Xn).trans ((if_neg ZbC).trans (if_pos ab));by_cases a7:S=[]
   . subst a7;rw[show mB 4 (List.map nJ [])=.bE from rfl];refine aM fun K hK=>?_;simp only[↓zP,zJ,seval,E 2 rfl,g0];refine⟨fun _=>?_,fun h=>absurd (show((0:Int)<4) by decide) (by simp at h)⟩;exact Zax
   rw[show mB 4 (S.map nJ)=.bJ 0 4 (S.map nJ) from if_neg (by simpa using a7)];refine aM fun K hK=>?_;simp only[↓zP,zJ,seval,E 2 rfl,g0,Ah];refine⟨fun _=>?_,fun h=>absurd ab A0⟩;exact Zax
 have a7:S≠[]:=fun h=>ab (by rw[h];decide);rw[show mB 4 (S.map nJ)=.bJ 0 4 (S.map nJ) from if_neg (by simpa using a7)]
 have aF:bR C≠[]:=fun h=>a7 (Fj.2 fun q D=>by
  obtain⟨i,j,k,_,_,h',_⟩:=iB ((u.fl.mem q).1 D);have :C.length=0:=by rw[<-aU,h];rfl
  omega)
 rw[show mB 3 (bR C)=.bJ 0 3 (bR C) from if_neg aF];refine bP ?_;simp only[↓zP,zJ,seval,Ah];refine⟨fun h=>absurd h A0,fun _=>?_⟩;refine bQ ?_;by_cases LP:64<S.length
 . have hO:iW l C S L=(.bE,2):=(if_neg Xn).trans ((if_neg ZbC).trans ((if_neg ab).trans (if_pos LP)));refine aM fun K hK=>?_;simp only[↓zP,zJ,seval,E 2 rfl,g0,Ah];refine⟨fun _=>?_,fun h=>absurd LP A0⟩;exact Zax
 refine bP ?_;simp only[↓zP,zJ,seval,Ah];refine⟨fun h=>absurd h A0,fun _=>?_⟩;refine bQ ?_;have hO:iW l C S L=(mB 3 (bR (gZ C S L)),0):=(if_neg Xn).trans ((if_neg ZbC).trans ((if_neg ab).trans (if_neg LP)));rw[hO]
 have aN:(List.replicate C.length [AV.bool false]).flatten=mk C.length (fun _=>false):=by
  have :∀n:Nat,(List.replicate n [AV.bool false]).flatten=List.replicate n (AV.bool false):=fun n=>by
   induction n with
   |zero=>rfl
   |succ n ih=>rw[Iu,Cl,ih];rfl
  rw[this];exact Fh (by simp[mk]) fun k O Z=>by simp[mk]
 have aK:C.length<=2^40:=by omega
 refine bP ?_;simp only[↓zP,zJ,seval,aU,aD,aK,aN];refine bQ ?_;have Zc:¬(0=H1.next):=by omega
 refine aM fun K hK=>?_;refine bP ?_;simp only[↓zP,zG,seval,Ah];refine bQ ?_;generalize aj:H1.next=a6 at *;refine bS [] (fun i _ H'=>H'.get 0=some (.cells [.bE] false)/\H'.get a6=some (.cells (mk C.length (fun k=>(S.take i).any fun q=>(L q).contains k)) false)/\a6<H'.next) S.length A0 A1 ?_ ?_ ?_ ?_ ?_
 . exact zq
 . exact zq
 . refine⟨by rw[aA.aI,aj,if_neg Zc];exact g0,by rw[aA.aI,aj,if_pos rfl];rfl,by rw[aA.bK,aj];omega⟩
 . rintro i f2 w F N P ⟨M,ms,Lg⟩;have t:(S.map nJ).getD i []=nJ S[i]:=eO F;have an:=Ac F;have D:=sA ag ((u.fl.mem _).1 an);have dw:=u.po _ an
   have uL:∀k,((S.take (i+1)).any fun q=>(L q).contains k)=(((S.take i).any fun q=>(L q).contains k)||(L S[i]).contains k):=fun k=>by rw[Ao,Is];simp[F]
   simp only[uL];generalize S[i]=q at *;have U:(nJ q).length=4:=rfl;have I:=RJ (tag:=0) A1 ag (Ae _) aq D A1 dw;have aE:∀k∈L q,k<C.length:=fun k E=>(cJ.1 (dw.aGz E)).1
   have b2:(L q).length<2^30:=by obtain⟨s,r,m,e,W,h⟩:=dw.ex;rw[h,Ah,Bv];have O:=W.le;have Z:=Db (fun k=>decide (aC.dot q.1 (C.getD k V0)=q.2)) (List.range C.length);rw[Bv] at Z;have h3:(iE (fun i=>C.getD i V0) C.length q.1 q.2).length<=C.length:=Z;omega
   refine aJ ?_;refine bP ?_;simp only[↓zP,zJ,seval,P,N 56 rfl,aD,Ah,F,t,oL U];refine fW ?_;have :=N 8 rfl;have := @dQ;refine Wy ?_;refine bQ ?_;have al:¬(0=w.next):=A0;have ak:¬(a6=w.next):=A0;refine bS [] (fun j _ H'=>H'.get 0=some (.cells [.bE] false)/\H'.get a6=some (.cells (mk C.length (fun k=>((S.take i).any fun q=>(L q).contains k)||((L q).take j).contains k)) false)/\a6<H'.next) (L q).length A0 A1 ?_ ?_ ?_ ?_ ?_
   . exact zq
   . exact zq
   . refine⟨by rw[aA.aH,if_neg al,aA.aI,if_neg al];exact M,?_,by simp only[aA.aZ,aA.bK];omega⟩;rw[aA.aH,if_neg ak,aA.aI,if_neg ak,ms];simp
   . rintro j f3 X Y gA B ⟨af,ad,HN⟩;have ay:=pF Y;have tH:=aE _ (Ac Y)
     have ar:∀k,((L q).take (j+1)).contains k=(((L q).take j).contains k||k==(L q)[j]):=fun k=>by rw[Dc];simp only[Ea,List.contains_iff_mem,Dl,Ao,Af Y,Option.toList_some,Ar,Bw]
     simp only[ar];generalize (L q)[j]=p at *;have aO:p+1<=C.length:=tH;have GV:=bCa (fun k=>((S.take i).any fun q=>(L q).contains k)||((L q).take j).contains k) tH;refine aJ ?_;simp only[↓zP,zJ,seval,B,gA 64 rfl,gA 10 rfl,N 10 rfl,aD,dQ,Y,ay,tH,aO,ad,Qq];refine⟨(if_neg A0).trans af,?_,HN⟩;rw[GV];simp only[Bool.or_assoc]
   rintro f3 X gA ⟨af,ad,HN⟩;rw[Aq] at ad;refine Tx ?_;exact⟨af,ad,HN⟩
 rintro f2 w N ⟨M,ms,Lg⟩;rw[Aq] at ms;refine Tx ?_;apply hK;clear hK K;have hP:∀k,(S.any fun q=>(L q).contains k)=gV S L k:=fun k=>rfl;simp only[hP] at ms;refine bP ?_;refine Tz ?_;refine bQ ?_;refine aM fun K hK=>?_;refine bP ?_;simp only[↓zP,zG,seval,N 8 rfl,aU];refine bQ ?_;have z0:¬(0=w.next):=by omega
 have zs:¬(a6=w.next):=by omega
 generalize ho:w.next=T at *;refine bS [] (fun i _ H'=>H'.get 0=some (.cells [.bE] false)/\H'.get a6=some (.cells (mk C.length (gV S L)) false)/\T<H'.next/\∃v,H'.get T=some (.cells [v] false)/\Own H' 3 v (bR (((List.range i).filter (gV S L)).map fun k=>C.getD k V0))/\(((List.range i).filter (gV S L)).map (fun k=>C.getD k V0)=[]->v=.bE)) C.length A0 A1 ?_ ?_ ?_ ?_ ?_
 . exact zq
 . exact zq
 . refine⟨by rw[aA.aI,ho,if_neg z0];exact M,by rw[aA.aI,ho,if_neg zs];exact ms,by rw[aA.bK,ho];omega,.bE,by rw[aA.aI,ho,if_pos rfl],.nil _ _,fun _=>rfl⟩
 . rintro i f3 X F gA B ⟨q0,qs,qn,v,qv,qo,qe⟩;have t:=cH F;have TU:C.getD i V0=C[i]:=by simp[List.getD,F]
   have b0:((List.range (i+1)).filter (gV S L)).map (fun k=>C.getD k V0)=((List.range i).filter (gV S L)).map (fun k=>C.getD k V0)++(if gV S L i then [C[i]] else []):=by
    rw[Ds,Jd,Cd];congr 1;simp only[Jw,Kd];split
    . rw[Cg,TU];rfl
    rfl
   have AU:(((List.range i).filter (gV S L)).map fun k=>C.getD k V0).length<=64:=by rw[Ah];have :=Db (gV S L) (List.range i);rw[Bv] at this;omega
   rw[b0];generalize ((List.range i).filter (gV S L)).map (fun k=>C.getD k V0)=els at *;generalize C[i]=x at *;have g:¬(0=X.next):=A0;have ns:¬(a6=X.next):=A0;have nb:¬(T=X.next):=A0;have ZW:i+1<=C.length:=F;have ae:=bBz (gV S L) F;refine aJ ?_;refine bP ?_;simp only[↓zP,zJ,seval,B,gA 75 rfl,aD,aU,F,t,oL (aT x)];refine bQ ?_;generalize G:(X.alloc _).set X.next _=o;have y0:o.get 0=some (.cells [.bE] false):=(by subst G;rw[aA.aH,if_neg g,aA.aI,if_neg g];exact q0);have ys:o.get a6=some (.cells (mk C.length (gV S L)) false):=(by subst G;rw[aA.aH,if_neg ns,aA.aI,if_neg ns];exact qs);have yv:o.get T=some (.cells [v] false):=(by subst G;rw[aA.aH,if_neg nb,aA.aI,if_neg nb];exact qv);have yx:=Kz G;have yn:o.next=X.next+1:=by subst G;simp only[aA.aZ,aA.bK]
   have yo:Own o 3 v (bR els):=by refine wK qo A0 fun k O Z=>?_;subst G;rw[aA.aH,if_neg A0,aA.aI,if_neg A0];exact Z
   clear G;generalize X.next=r3 at *
   cases hu:gV S L i with
   |false=>rw[hu] at ae;simp only[↓zP,zJ,seval,gA 10 rfl,N 10 rfl,aD,F,ZW,ys,Qq,ae];exact⟨y0,trivial,by omega,v,yv,yo,qe⟩
   |true=>
    rw[hu] at ae;simp only[↓zP,zJ,seval,gA 10 rfl,N 10 rfl,aD,F,ZW,ys,Qq,ae,gA 15 rfl,yv,yx,oL (aT x)];obtain⟨H5,z1,z2,z3,z4,z5⟩:=Has.push (.inr yo) (ys:=[cG x]) (bytes:=24) rfl Zb1;rw[eL];have w2:=(z4 T A0 (by rw[yv];simp)).trans yv;simp only[z1,bX,zJ,seval,w2];refine⟨(if_neg A0).trans ((z4 0 A0 (by rw[y0];simp)).trans y0),(if_neg A0).trans ((z4 a6 A0 (by rw[ys];simp)).trans ys),by omega,_,rfl,?_,fun h=>?_⟩
    . rw[show bR (els++[x])=bR els++[cG x] from by simp[bR]];exact .inr ⟨o.next,rfl,by simp only[aA.aZ];omega,by rw[aA.aH,if_neg A0];exact z3⟩
    simp at h
 rintro f3 X gA ⟨q0,qs,qn,v,qv,qo,qe⟩;refine Tx ?_;apply hK;clear hK K;have hL:((List.range C.length).filter (gV S L)).map (fun k=>C.getD k V0)=gZ C S L:=rfl;rw[hL] at qo qe;simp only[↓zP,zJ,seval,gA 15 rfl,gA 2 rfl,N 2 rfl,E 2 rfl,qv,q0];refine⟨rfl,_,by simp only[↓zP,zR,seval,gA 2 rfl,N 2 rfl,E 2 rfl];rfl,?_⟩;refine⟨_,2,rfl,fun d=>?_⟩
 exact Zar
variable{C:List aC.V}{S:List (aC.V×Int)}{L:aC.V×Int->List Nat}
theorem QU(u:vJ C S L)(z:S≠[]):gZ C S L≠[]:=by
 obtain⟨q,r,rfl⟩:=Ek z;obtain⟨s,a,m,e,W,h⟩:=(u.po q Az).ex;have p:s∈L q:=by rw[h];exact Bb.2 ⟨0,Ax.2 W.pos,rfl⟩
 have M:s<C.length:=(cJ.1 W.hs).1;intro X;have :C.getD s V0∈gZ C (q::r) L:=Bb.2 ⟨s,Ft.2 ⟨Ax.2 M,by simp[gV,p]⟩,rfl⟩;rw[X] at this;cases this
def Od(l C:List aC.V)(S:List (aC.V×Int))(L:aC.V×Int->List Nat):Int:=
 if(iW l C S L).2=0/\gZ C S L≠l then 3 else(iW l C S L).2
theorem VX{l:List aC.V}(h:(iW l C S L).2=0):S≠[]/\(iW l C S L).1=mB 3 (bR (gZ C S L))/\l.length<=64:=by
 unfold iW at h ⊢;split at h
 . cases h
 split at h
 . cases h
 split at h
 . cases h
 split at h
 . cases h
 rename_i O Z W h4;rw[if_neg O,if_neg Z,if_neg W,if_neg h4];exact⟨fun e=>W (by rw[e];decide),rfl,by omega⟩
theorem VW(q:Nat.blt tag 2=true){l C:List aC.V}(Q:l.length<2^30)(j:Ord l C){S:List (aC.V×Int)}{L:aC.V×Int->List Nat}(u:vJ C S L)(H:aA):
 Sg 101 [.agg [.bJ tag 3 (bR l)]] H (.ret (.int .i64 (Od l C S L))) H:=by
 refine So aSi ZaJ ?_ H;unfold aKy;dsimp only;have A:=fun H=>aKv q Q j u H;unfold Od;have m:=VX (l:=l) (C:=C) (S:=S) (L:=L);generalize iW l C S L=o at *;obtain⟨g,k⟩:=o;dsimp only at A m ⊢;refine bP ?_;refine Ty ?_;refine fW ?_;refine Wz ?_;refine bQ ?_;by_cases R:k=0
 . subst R;obtain⟨y,rfl,i⟩:=m rfl;have z:=QU u y;have f:mB 3 (bR (gZ C S L))=.bJ 0 3 (bR (gZ C S L)):=if_neg (by simpa [bR] using z);rw[f]
   have d:(gZ C S L).length<2^30:=by have c:C.length<=l.length:=tL C l (Gv (fun {a b} (h:iO a b) (e:a=b)=>iO.o5 b Zby) j.Ra) fun v J=>(j.mem v).1 J;have :=Db (gV S L) (List.range C.length);rw[Bv] at this;simp only[gZ,Ah];omega
   have X:((0:Int)==0)=true:=rfl;have w:=fun H=>aCh (t1:=0) (t2:=tag) rfl q d Q H;refine aM fun K hK=>?_;simp only[↓zP,zJ,seval,X];refine fC (w _) ?_;by_cases B:gZ C S L=l
   . have hd:=Ag B;simp only[↓zP,zJ,seval,hd];apply hK;clear hK K;refine Tz ?_;refine Rx ?_;rw[if_neg (fun h=>h.2 B)];rfl
   have hd:=Ab B;simp only[↓zP,zJ,seval,hd];refine Rx ?_;rw[if_pos ⟨trivial,B⟩];rfl
 have X:(k==0)=false:=Cy.2 R;refine bP ?_;simp only[↓zP,zG,seval,X];refine bQ ?_;refine Tz ?_;refine Rx ?_;rw[if_neg (fun h=>R h.1)];rfl
variable{r:Nat}{o:Bool}{H:aA}
theorem Ot{id:Nat}(V:H.get r=some (.cells [.bE] o)):Sg 324 [.yield id,.ref r 0] H (.ret (.jS [])) H:=by
 refine oX aTo (Ai rfl) ?_;unfold aMe;dsimp only;refine bP ?_;refine Wz ?_;refine bQ ?_;refine bS [] (fun i vs H'=>H'=H) 0 A1 A1 ?_ ?_ ?_ ?_ ?_
 . simp only[zB]
 . simp only[zB,Nat.reduceEqDiff];rfl
 . rfl
 . rintro i f H1 F;exact absurd F (Al _)
 rintro f H1 E rfl;refine⟨rfl,_,by simp only[zR];rfl,?_⟩;exact ZbJ
theorem Zn(H:aA):Sg 291 [.bE] H (.ret (.func (.func 324) [] [.ref H.next 0])) (H.alloc (.cells [.bE] false)):=by refine oX aTk (Ai rfl) ?_;unfold aMa;dsimp only;refine Wz ?_;refine⟨rfl,_,by simp only[↓zP,zR];rfl,?_⟩;exact⟨rfl,rfl⟩
theorem SA(L:r<H.next)(V:H.get r=some (.cells [.bE] o)):
 ∃H',Sg 350 [.bE,.func (.func 324) [] [.ref r 0]] H (.ret .bE) H':=by
 suffices h:∃out H',out=.ret .bE/\Sg 350 [.bE,.func (.func 324) [] [.ref r 0]] H out H' by obtain⟨_,H',rfl,u⟩:=h;exact⟨H',u⟩
 refine AZ fit aTp (Ai rfl) ?_;unfold aMf;dsimp only;refine bP ?_;simp only[↓zP,zJ,Nat.reduceLT];refine bQ ?_;refine aM fun K hK=>?_;refine bP ?_;refine Wy ?_;refine bQ ?_;have n:(kI (kI (kI (fD [.bE,.func (.func 324) [] [.ref r 0]]) 2 (.ref H.next 0)) 4 .bE) 6 (.func (.func 324) [] [.ref r 0])) 2=.ref H.next 0:=rfl;have a:(kI (kI (kI (fD [.bE,.func (.func 324) [] [.ref r 0]]) 2 (.ref H.next 0)) 4 .bE) 6 (.func (.func 324) [] [.ref r 0])) 6=.func (.func 324) [] [.ref r 0]:=rfl;generalize kI (kI (kI (fD [.bE,.func (.func 324) [] [.ref r 0]]) 2 (.ref H.next 0)) 4 .bE) 6 (.func (.func 324) [] [.ref r 0])=f at *;refine aJ ?_;refine IF (by rw[jM];exact a) ?_;simp only[aA.bK];generalize q:Mm.mk [7] _ _=key
 refine⟨_,_,_,_,_,Ot (o:=o) (by rw[aA.aI,if_neg Zaf,aA.aI,if_neg Zaf,aA.aI,if_neg A0];exact V),by rw[aA.aI];simp;exact⟨rfl,rfl,rfl⟩,fun G N=>?_⟩
 obtain⟨b,s⟩:=N;show K f [.mark (H.next+1)] G;apply hK;clear hK K;have Q:G.get H.next=some (.cells [.bE] false):=by rw[s,if_neg A0];simp[aA.aI];omega
 have R:G.get (H.next+1)=some .Nu:=by rw[s,if_neg A0];simp[aA.aI]
 simp only[↓zP,zJ,Nat.reduceLT,n,Q];exact⟨R,[.bE],rfl,rfl⟩
theorem Wf(L:r<H.next)(V:H.get r=some (.cells [.bE] o)):
 ∃H',Sg 322 [.func (.func 324) [] [.ref r 0]] H (.ret .bE) H':=by
 obtain⟨H',u⟩:=SA L V;refine⟨H',?_⟩;refine oX aTn (Ai rfl) ?_;unfold aMd;dsimp only;refine Wz ?_;refine⟨rfl,_,by simp only[↓zP,zR];rfl,?_⟩;exact ZbJ
theorem Pd(L:r<H.next)(V:H.get r=some (.cells [.bE] o)):
 ∃H',Sg 290 [.func (.func 324) [] [.ref r 0],.func (.func 292) [] []] H (.ret .bE) H':=by
 obtain⟨H1,u⟩:=Wf L V;refine⟨H1,?_⟩;refine oX aGi (Ai rfl) ?_;unfold aDi;dsimp only;simp only[↓zP,zJ,Nat.reduceLT,Nat.reduceEqDiff];refine fC (u) ?_;simp only[↓zP,zJ,Nat.reduceLT,Nat.reduceEqDiff];refine fC (nP Tryz.aJt rfl Vl 292 _) ?_;simp only[↓zP,zG,Nat.reduceEqDiff];refine⟨rfl,_,by simp only[↓zP,zR];rfl,?_⟩;exact ZbJ
theorem ka(H:aA):Sg 252 [.bE] H (.ret .bE) H:=by refine eP fit eE aTg (Ai rfl) Zac ?_ H;unfold aLw;dsimp only;obtain⟨H1,u⟩:=Pd (r:=0) (o:=false) (H:=(aA.mk 0 .nil).alloc (.cells [.bE] false)) A2 rfl;simp only[↓zP,zJ,Nat.reduceLT,Nat.reduceEqDiff];refine fC (Zn _) ?_;simp only[];have :=Nn;refine Wz ?_;refine⟨rfl,_,by simp only[↓zP,zR];rfl,?_⟩;exact⟨_,0,rfl,fun d=>rfl⟩
theorem aCp(H:aA):Sg 193 [.bE] H (.ret (.jS [.agg [.bE],.int .i64 120])) H:=by
 refine eP fit eE aSy (Ai rfl) Zac ?_ H;unfold aLo;dsimp only;refine bP ?_;simp only[↓zP,zG,Nat.reduceLT];refine fW ?_;simp only[↓zP,zJ,Nat.reduceLT,Nat.reduceEqDiff];refine⟨fun h=>absurd h A1,fun _=>?_⟩;refine bQ ?_;refine aM fun K hK=>?_;refine bP ?_;refine Wy ?_;refine bQ ?_;refine bS [] (fun i _ H=>H.get 0=some (.cells [.bE] false)) 0 A1 A1 ?_ ?_ ?_ ?_ ?_
 . simp only[zB]
 . simp only[zB,Nat.reduceEqDiff];rfl
 . simp only[zI]
 . rintro i f H1 F;exact absurd F (Al _)
 rintro f H1 E g0;simp only[↓zP];apply hK;clear hK K;refine bP ?_;have :=E 0 rfl;have :=ka;refine Wz ?_;refine fW ?_;have :=RI;refine Wz ?_;refine bQ ?_;refine aM fun K hK=>?_;simp only[↓zP,zJ,Nat.reduceLT,Nat.reduceEqDiff,Int.reduceLT,E 2 rfl,g0];refine⟨fun _=>?_,fun h=>absurd (show((0:Int)<4) by decide) (by simp at h)⟩;refine⟨rfl,_,by simp only[↓zP,zR,Nat.reduceEqDiff,E 2 rfl,g0];rfl,?_⟩;exact⟨_,2,rfl,fun d=>rfl⟩
theorem SX(H:aA):Sg 101 [.agg [.bE]] H (.ret (.int .i64 120)) H:=by
 refine So aSi Zac ?_ H;unfold aKy;dsimp only;refine bP ?_;simp only[↓zP,zJ,Nat.reduceLT];refine fW ?_;have :=aCp;refine Wz ?_;refine bQ ?_;have X:((120:Int)==0)=false:=by decide
 refine bP ?_;refine Wz ?_;refine bQ ?_;refine Wz ?_;refine⟨rfl,_,by simp only[↓zP,zR];rfl,?_⟩;rfl
def pC(p:Int×Int):List AV:=[.int .i64 p.1,.int .i64 p.2]
theorem RE(p:Int×Int):(pC p).length=2:=rfl
theorem Vo(p:Int×Int):cW (pC p)=true:=by rfl
def aAb(p q:Int×Int):Int:=orZ [yB p.1 q.1,yB p.2 q.2]
theorem Vq(p q:Int×Int):aAb p q<0↔p.1<q.1\/(p.1=q.1/\p.2<q.2):=by
 unfold aAb orZ yB
 grind
theorem qx(p q:Int×Int)(H:aA):Sg 285 [.agg (pC p),.agg (pC q)] H (.ret (.int .i64 (aAb p q))) H:=by
 refine So bKe (by simp only[sf,Vo]) ?_ H;unfold aXz;dsimp only;refine aM fun K hK=>?_;refine Wy ?_;apply hK;clear hK K;refine aM fun K hK=>?_;refine Dz ?_;simp only[↓zP,zG,seval,zD,zI,pC,AR];refine gH (kV p.1 q.1 _) ?_;simp only[↓zP,zG,seval,zD,zI,AR];refine gH (kV p.2 q.2 _) ?_;simp only[↓zP,zG,seval,zD,zI];have w:=aCr [yB p.1 q.1,yB p.2 q.2] A2;simp only[Lj,sm] at w;refine Wy ?_;apply hK;clear hK K;refine Tx ?_
 (refine Rx ?_;rfl)
def pV(q:Int×Int):FG 2:=⟨[q.1,q.2],rfl⟩
def MZ(x:FG 2):Int×Int:=(x.1.getD 0 0,x.1.getD 1 0)
theorem qz(x:FG 2):pV (MZ x)=x:=by
 obtain⟨l,U⟩:=x
 match l,U with
 |[a,b],_=>rfl
theorem aNh(q:Int×Int):XU (pV q)=pC q:=rfl
theorem Vx:∀S:List (Int×Int),(oT (S.map pV)).map (AV.int .i64)=(S.map pC).flatten
 |[]=>rfl
 |q::S=>by have :=Vx S;simp only[oT,Cg,Dw,Cd,Cl] at this ⊢;rw[this];rfl
theorem bRl:Go.Sort.SWO (Go.Proofs.ltOf fun x y:FG 2=>aAb (MZ x) (MZ y)) where
 irrefl x:=by simp[Go.Proofs.ltOf,Vq,Ce]
 trans x y z h1 h2:=by simp only[Go.Proofs.ltOf,Vq,Br] at *;omega
 ntrans x y z h1 h2:=by grind[Go.Proofs.ltOf,Vq,decide_eq_false_iff_not]
theorem qm:DH Tryz.prog 284:=⟨_,Tryz.func284,by rfl,by rfl⟩
theorem aJq(d:List (FG 2))(hd:d.length<4611686018427387904):
 ∃d':List (FG 2),d'.Perm d/\(d'.Pairwise fun a b=>¬aAb (MZ b) (MZ a)<0)/\∀(H:aA) (id:Nat) (r:Bool),H.get id=some (.cells ((oT d).map (AV.int .i64)) r)->
  Sg 284 [.sl id 2 0 d.length d.length,.func (.func 285) [] []] H (.ret (.jS [])) (H.set id (.cells ((oT d').map (AV.int .i64)) r)):=
 IN (fun _=>rfl) Tryz.aTw A1 Tryz.isAgg23 Tryz.sizeOf23 rfl qm (qx (0,0) (0,0) ⟨0,.nil⟩).1 bRl (fun x y=>by
  have :=qx (MZ x) (MZ y) ⟨0,.nil⟩
  grind[aNh,qz]) d hd
def Ud(H:aA)(x:Nat)(v:AV)(l:List (Int×Int)):Prop:=
 (l=[]/\v=.bE)\/∃X,l≠[]/\v=.sl X 2 0 l.length l.length/\H.get X=some (.cells (l.map pC).flatten true)/\¬(x=X)/\X<H.next
variable{v:AV}{l:List (Int×Int)}{x:Nat}
theorem Ud.push(h:Ud H x v l)(E:x<H.next)(Q:l.length<2^30)(p:Int×Int):
 ∃D H',gE H 2 16 true v [pC p]=some (D,H')/\Ud H' x D (l++[p])/\H'.next=H.next+1/\H'.get x=H.get x:=by
 rcases h with ⟨rfl,rfl⟩|⟨X,z,rfl,t,O,Z⟩
 . exact⟨_,_,DK rfl A2,.inr ⟨H.next,by simp,rfl,by simp[aA.aI],by omega,by simp⟩,by simp,by grind[aA.aI]⟩
 have U:(l.map pC).flatten.length=l.length*2:=by rw[pZ (sz:=2) (fun e B=>?_),Ah];obtain⟨x,_,rfl⟩:=Bb.1 B;rfl
 refine⟨_,_,DL t U rfl (by grind) A1,.inr ⟨H.next,by simp,by simp,?_,by omega,by simp⟩,by simp,by grind[aA.aI,aA.aZ,aA.aH]⟩;simp[aA.aI,aA.aZ]
theorem Ud.behind{H':aA}(h:Ud H x v l)(A:H'.next=H.next+1)(M:∀j,j<H.next->H'.get j=H.get j):Ud H' H.next v l:=by
 rcases h with h|⟨X,o,O,Z,W,h4⟩
 . exact .inl h
 exact .inr ⟨X,o,O,(M _ h4).trans Z,by omega,by omega⟩
def ZT(l:List Nat)(j:Nat):List (Int×Int):=(List.range j).flatMap fun i=>if l.getD i 0<l.getD ((i+1)%l.length) 0 then [((l.getD i 0:Int),(l.getD ((i+1)%l.length) 0:Int))] else []
def KH(S:List (aC.V×Int))(L:aC.V×Int->List Nat):List (Int×Int):=S.flatMap fun q=>ZT (L q) (L q).length
theorem aCg(ht:Nat.blt tag 2=true){l:List aC.V}{M:Nat}(U:∀v∈l,bN M v)(hM:M<=2^18)(Q:l.length<=64){S:List (aC.V×Int)}{L:aC.V×Int->List Nat}(u:vJ l S L)(cU:S≠[])(LP:S.length<=64):
 ∃E:List (Int×Int),E.Perm (KH S L)/\(E.Pairwise fun a b=>¬aAb b a<0)/\∀H,Sg 241 [.agg [.bJ tag 3 (bR l)]] H (.ret (mB 2 (E.map pC))) H:=by
 have a7:∀q∈S,(L q).length<=64:=fun q hq=>by obtain⟨s,r,m,e,W,h⟩:=(u.po q hq).ex;rw[h,Ah,Bv];have O:=W.le;have Z:=Db (fun k=>decide (aC.dot q.1 (l.getD k V0)=q.2)) (List.range l.length);rw[Bv] at Z;have h3:(iE (fun i=>l.getD i V0) l.length q.1 q.2).length<=l.length:=Z;omega
 have ad:∀T:List (aC.V×Int),(∀q∈T,(L q).length<=64)->(KH T L).length<=T.length*64:=fun T=>by
  induction T with
  |nil=>intro _;simp[KH]
  |cons q T z=>intro h;have O:=z fun x C=>h x (As _ C);have Z:=h q Az;have h3:=nY (fun i=>if(L q).getD i 0<(L q).getD ((i+1)%(L q).length) 0 then [((((L q).getD i 0:Nat):Int),(((L q).getD ((i+1)%(L q).length) 0:Nat):Int))] else []) 1 (fun i=>by split<;>simp) (List.range (L q).length);rw[Bv,Df] at h3;have h4:(ZT (L q) (L q).length).length<=(L q).length:=h3;simp only[KH,Dw,An,Ba,Bo,Fk] at O ⊢;omega
 have ak:∀i,(KH (S.take i) L).length<2^29:=fun i=>by
  have O:=ad (S.take i) fun q hq=>a7 q (Cw hq);have Z:(S.take i).length<=S.length:=by rw[Et];omega
  omega
 obtain⟨d',q1,q2,q3⟩:=aJq ((KH S L).map pV) (by
  have O:=ad S a7;rw[Ah]
  omega)
 refine⟨d'.map MZ,?_,?_,fun H=>?_⟩
 . have O:=q1.map MZ
   rwa [Da,show(MZ∘pV)=id from rfl,Fv] at O
 . rw[Eo];exact q2
 refine eP fit eE bJf (Ai rfl) Za1 ?_ H;unfold aXa;dsimp only;refine aM fun K hK=>?_;refine Wy ?_;apply hK;clear hK K;refine aM fun K hK=>?_;refine Tz ?_;apply hK;clear hK K;have hF:=fun H=>FE ht U hM Q u cU H;refine aM fun K hK=>?_;refine aM fun D cY=>?_;simp only[↓zP,zG,seval,zI];refine fC (hF _) ?_;simp only[↓zP,zG,seval,zI,Ah];apply cY;clear cY D;refine bS [3] (fun i vs H'=>∃v x,vs=[v]/\Ud H' x v (KH (S.take i) L)/\1<=H'.next) S.length A0 A1 ?_ ?_ ?_ ?_ ?_
 . exact zq
 . exact zq
 . exact⟨.bE,0,by simp only[sm,zB,seval],.inl ⟨rfl,rfl⟩,by simp only[zI,seval]⟩
 . rintro i f H1 hi hk e1 ⟨v,x,J,hr,A⟩;simp only[zM] at J;have t:(S.map (cX L)).getD i []=cX L S[i]:=eO hi
   have uL:KH (S.take (i+1)) L=KH (S.take i) L++ZT (L S[i]) (L S[i]).length:=by simp only[KH];rw[Ao,Gg];simp[hi]
   have VK:=ak i;have an:=a7 _ (Ac hi);rw[uL];generalize KH (S.take i) L=E0 at *;generalize S[i]=q at *;have p5:(cX L q).length=5:=rfl;have pa:(cX L q).getD 4 aB=.bJ 0 1 (yL (L q)):=rfl;refine aJ ?_;refine aM fun D cY=>?_;simp only[↓zP,zG,seval,zI,e1,hk 10 rfl,aD,Ah,hi,t,oL p5];apply cY;clear cY D;generalize G:(H1.alloc _).set H1.next _=o;have yn:o.next=H1.next+1:=ZbQ;have y5:=Kz G;have yr:Ud o H1.next v E0:=hr.behind yn fun j Y=>by subst G;rw[aA.aH,if_neg A0,aA.aI,if_neg A0]
   clear G;generalize H1.next=F at *;refine aM fun D cY=>?_;have := @dQ;refine Ww ?_;apply cY;clear cY D;refine bS [3] (fun j vs H'=>∃v,vs=[v]/\Ud H' F v (E0++ZT (L q) j)/\F<H'.next/\H'.get F=some (.cells (cX L q) false)) (L q).length A0 A1 ?_ ?_ ?_ ?_ ?_
   . exact zq
   . exact zq
   . exact⟨v,by simp only[sm,zB,seval];rw[J],by simpa [ZT] using yr,by omega,y5⟩
   . rintro j f2 H2 Y N e2 ⟨v2,I,ed,Lg,w⟩;simp only[zM] at I;refine aJ ?_;refine aM fun D cY=>?_;have al:=pF Y;have :=N 17 rfl;refine Ww ?_;apply cY;clear cY D;refine aM fun D cY=>?_;refine Dz ?_;have wj:IntKind.i64.wrap ((j:Int)+1)=((j+1:Nat):Int):=(wrap_i64 A0 A0).trans A0;have nz:¬(((L q).length:Int)=0):=A0;have p:(j+1)%(L q).length<(L q).length:=Bz _ A0;have tm:((j+1:Nat):Int).tmod ((L q).length:Int)=(((j+1)%(L q).length:Nat):Int):=rfl;have ag:=pF p
     have ab:ZT (L q) (j+1)=ZT (L q) j++(if(L q)[j]<(L q)[(j+1)%(L q).length] then [((((L q)[j]:Nat):Int),(((L q)[(j+1)%(L q).length]:Nat):Int))] else []):=by simp only[ZT];rw[Ds,Gg];simp[List.getD,Y,p]
     have ar:(ZT (L q) j).length<=j:=by have :=nY (fun i=>if(L q).getD i 0<(L q).getD ((i+1)%(L q).length) 0 then [((((L q).getD i 0:Nat):Int),(((L q).getD ((i+1)%(L q).length) 0:Nat):Int))] else []) 1 (fun i=>by split<;>simp) (List.range j);rw[Bv,Df] at this;exact this
     have a6:E0++ZT (L q) (j+1)=(E0++ZT (L q) j)++(if(L q)[j]<(L q)[(j+1)%(L q).length] then [((((L q)[j]:Nat):Int),(((L q)[(j+1)%(L q).length]:Nat):Int))] else []):=(by rw[ab,Dg]);have P:(E0++ZT (L q) j).length<2^30:=(by rw[An];omega);generalize aq:E0++ZT (L q) j=E1 at ed a6 P;clear ab;simp only[↓zP,zG,seval,zD,zI,N 5 rfl,w,p5,pa,aD,dQ,wj,nz,tm,p,ag];apply cY;clear cY D;generalize (L q)[(j+1)%(L q).length]=b at *;generalize (L q)[j]=a at *;by_cases xH:a<b
     . have hd:decide ((a:Int)<(b:Int))=true:=Ag A0;obtain⟨v',H5,z1,c,z3,z4⟩:=ed.push Lg P ((a:Int),(b:Int));have ae:[AV.int .i64 (a:Int),.int .i64 (b:Int)]=pC ((a:Int),(b:Int)):=rfl;simp only[↓zP,zG,seval,zI,hd,I,ae,RE];rw[eL];simp only[z1,bX,seval];rw[a6,if_pos xH];exact⟨v',rfl,c,by omega,z4.trans w⟩
     have hd:decide ((a:Int)<(b:Int))=false:=Ab A0;simp only[↓zP,zG,seval,zI,hd,I];rw[a6,if_neg xH,Bx];exact⟨v2,rfl,ed,Lg,w⟩
   rintro f2 H2 N ⟨v2,I,ed,Lg,w⟩;simp only[zM] at I;refine Tx ?_;exact⟨v2,F,by simp only[sm,seval];rw[I],ed,by omega⟩
 rintro f H1 hk ⟨v,x,J,hr,A⟩;simp only[zM] at J;rw[Aq] at hr;refine Tx ?_;apply hK;clear hK K;have nm:KH S L≠[]->(KH S L).map pV≠[]:=fun h e=>h (by simpa using e)
 rcases hr with ⟨hE,rfl⟩|⟨X,aj,rfl,t,C,oo⟩
 . refine aM fun K hK=>?_;simp only[↓zP,zG,seval,J];refine fC (nP Tryz.aTw rfl qm 285 _) ?_;refine Tx ?_;apply hK;clear hK K;refine Wz ?_;refine Rx ?_
   have TT:d'=[]:=by rw[hE] at q1;exact List.Perm.eq_nil q1
   rw[TT];exact⟨_,0,rfl,fun d=>rfl⟩
 have af:H1.get X=some (.cells ((oT ((KH S L).map pV)).map (AV.int .i64)) true):=by rw[t,Vx]
 have R:=q3 H1 X true af;rw[Ah] at R;refine aM fun K hK=>?_;refine Wy ?_;apply hK;clear hK K;refine Wz ?_;have tF:d'=(d'.map MZ).map pV:=by rw[Da];exact(Dd (g:=id) (fun x _=>qz x)).trans (Fv d') |>.symm
 have VJ:((d'.map MZ).map pC).length=(KH S L).length:=by rw[Ah,Ah,q1.length_eq,Ah]
 rw[show(oT d').map (AV.int .i64)=((d'.map MZ).map pC).flatten from by rw[<-Vx,<-tF]];refine Rx ?_;have y:¬((d'.map MZ).map pC=[]):=fun h=>aj (Cm (by rw[<-VJ,h];rfl));refine⟨_,0,rfl,fun d=>?_⟩;rw[<-VJ,mB,if_neg y];refine Yx ZaR (fun e B=>?_) (dP Vo _) d;obtain⟨q,_,rfl⟩:=Bb.1 B;rfl
def HJ(l:List aC.V)(p:Nat×Nat):aC.V:=aC.sub (l.getD p.2 V0) (l.getD p.1 V0)
def pN(p:Nat×Nat):Int×Int:=(p.1,p.2)
theorem vp(ht:Nat.blt tag 2=true){l:List aC.V}{M:Nat}(U:∀v∈l,bN M v)(g:M<=2^18){E:List (Nat×Nat)}(P:E.length<=2^20)(n:E≠[])(w:∀p∈E,p.1<l.length/\p.2<l.length)
 (u:∀H,Sg 241 [.agg [.bJ tag 3 (bR l)]] H (.ret (mB 2 ((E.map pN).map pC))) H) (H:aA):
 Sg 183 [.agg [.bJ tag 3 (bR l)]] H (.ret (.bJ 0 3 (bR (E.map (HJ l))))) H:=by
 refine eP fit eE bHv (Ai rfl) Za1 ?_ H;unfold aVr;dsimp only;have y:∀k (h:k<l.length),l.getD k V0=l[k]:=fun k h=>by simp[List.getD,h]
 rw[show mB 2 ((E.map pN).map pC)=.bJ 0 2 ((E.map pN).map pC) from if_neg (by simpa using n)] at u;refine bP ?_;refine Ty ?_;refine fW ?_;refine Tz ?_;refine bQ ?_;refine aM fun K hK=>?_;refine bP ?_;refine Ty ?_;refine fC (u _) ?_;simp only[↓zP,zG,seval,Ah];refine bQ ?_;refine bS [3] (fun i vs H'=>∃v,vs=[v]/\Own H' 3 v (bR ((E.take i).map (HJ l)))/\1<=H'.next/\H'.get 0=some (.cells [.bJ tag 3 (bR l)] false)) E.length A0 A1 ?_ ?_ ?_ ?_ ?_
 . exact zq
 . exact zq
 . exact ZaC
 . rintro i f H1 F Q T ⟨v,J,S,A,g0⟩;simp only[zM] at J;have t:((E.map pN).map pC).getD i []=pC (pN E[i]):=by rw[Da];exact eO F
   obtain⟨I,X⟩:=w _ (Ac F)
   have m:(E.take (i+1)).map (HJ l)=(E.take i).map (HJ l)++[HJ l E[i]]:=by rw[Ao,Cd];simp[F]
   have e:((E.take i).map (HJ l)).length<=2^20:=Zaf;rw[m];generalize (E.take i).map (HJ l)=els at *;generalize E[i]=p at *;have b:¬(0=H1.next):=A0;have s:=cH I;have L:=cH X;have j:=U _ (Ac I);have x:=U _ (Ac X);have D:aC.sub l[p.2] l[p.1]=HJ l p:=(by simp only[HJ,y p.2 X,y p.1 I]);have q0:(pC (pN p)).getD 0 aB=.int .i64 (p.1:Int):=rfl;have q1:(pC (pN p)).getD 1 aB=.int .i64 (p.2:Int):=rfl;refine aJ ?_;refine bP ?_;simp only[↓zP,zJ,seval,T,Q 7 rfl,aD,Ah,F,t,oL (RE (pN p))];refine bQ ?_;generalize G:(H1.alloc _).set H1.next _=o;have W:o.get 0=some (.cells [.bJ tag 3 (bR l)] false):=Zcf;have B:o.get H1.next=some (.cells (pC (pN p)) false):=(by subst G;rw[aA.aH,if_pos rfl]);have un:o.next=H1.next+1:=by subst G;simp only[aA.aZ,aA.bK]
   have R:Own o 3 v (bR els):=by refine wK S A0 fun k O Z=>?_;subst G;rw[aA.aH,if_neg A0,aA.aI,if_neg A0];exact Z
   clear G;obtain⟨r,q,c,C,a,N⟩:=Has.push (.inr R) (ys:=[cG (HJ l p)]) (bytes:=24) rfl Zb1;generalize H1.next=r1 at *;refine Dz ?_;simp only[↓zP,zJ,seval,zD,Q 1 rfl,J,W,B,RE,q0,q1,AR,aD,aU,I,X,s,L,oL (aT l[p.1]),oL (aT l[p.2])];refine gH (GL x j A0 _) ?_;rw[D];simp only[↓zP,zJ,seval,zD,oL (aT (HJ l p))];rw[eL];simp only[q,bX,seval];rw[show bR (els++[HJ l p])=bR els++[cG (HJ l p)] from by simp[bR]];exact⟨by omega,_,rfl,.inr ⟨o.next,rfl,by omega,C⟩,by omega,(a 0 A0 (by rw[W];simp)).trans W⟩
 rintro f H1 Q ⟨v,J,S,A,g0⟩;simp only[zM] at J;rw[Aq] at S;refine Tx ?_;apply hK;simp only[↓zP,zG,seval,J];refine Rx ?_;refine⟨v,0,rfl,fun d=>?_⟩;have z:bR (E.map (HJ l))≠[]:=by simpa [bR] using n
 rcases S with ⟨_,h⟩|⟨k,rfl,O,Z⟩
 . exact absurd h z
 have Y:fN (bR (E.map (HJ l)))=true:=dP bV _;simp[jB,mJ,Y,GY]
end Go.Proofs.YtogfcjbgeebfkaaGreatDoor
namespace Go.Proofs.YtogfcjbgeebfkaaGreatDoor
open Go Go.Av Go.aC Go.jG
theorem wH{z:Int}(h:z.natAbs<2^250):norm z=some z:=by
 have :(2:Nat)^250<W^16:=by decide
 unfold norm
 grind
variable{A B:Nat}
theorem wF{x y:Int}(C:x.natAbs<=A)(Q:y.natAbs<=B)(h:A*B<2^250):lY (some x) (some y)=some (x*y):=wH (by
 have :=bZ C Q
 omega)
theorem XT{v w:aC.V}(J:bN A v)(L:bN B w)(h:3*(A*B)<2^240):smO (fun i=>some (v.at i)) (fun i=>some (w.at i)) 3=some (aC.dot v w):=by
 have e:A*B<2^250:=by omega
 have M:=bZ J.1 L.1;have C:=bZ J.2.1 L.2.1;have Y:=bZ J.2.2 L.2.2;simp only[smO,V.at];rw[wF J.1 L.1 e,wF J.2.1 L.2.1 e,wF J.2.2 L.2.2 e];simp only[nL];rw[wH (show(0+v.x*w.x).natAbs<2^250 by omega)];simp only;rw[wH (show(0+v.x*w.x+v.y*w.y).natAbs<2^250 by omega)];simp only;rw[wH (show(0+v.x*w.x+v.y*w.y+v.z*w.z).natAbs<2^250 by omega)];simp[aC.dot]
theorem bj{v w:aC.V}(J:bN A v)(L:bN B w)(h:3*(A*B)<2^240){i:Nat}(F:i<3):bg (fun i=>some (v.at i)) (fun i=>some (w.at i)) i=some ((aC.aY v w).at i):=by
 have e:A*B<2^250:=by omega
 have key:∀a b c d:Int,a.natAbs<=A->b.natAbs<=B->c.natAbs<=A->d.natAbs<=B->nL (lY (some a) (some b)) (wG (lY (some c) (some d)))=some (a*b -c*d):=fun a b c d O Z W h4=>by rw[wF O Z e,wF W h4 e];have M:=bZ O Z;have C:=bZ W h4;simp only[wG,nL];rw[wH A0,Jf]
 match i,F with
 |0,_=>exact key v.y w.z v.z w.y J.2.1 L.2.2 J.2.2 L.2.1
 |1,_=>exact key v.z w.x v.x w.z J.2.2 L.1 J.1 L.2.2
 |2,_=>exact key v.x w.y v.y w.x J.1 L.2.1 J.2.1 L.1
end Go.Proofs.YtogfcjbgeebfkaaGreatDoor
