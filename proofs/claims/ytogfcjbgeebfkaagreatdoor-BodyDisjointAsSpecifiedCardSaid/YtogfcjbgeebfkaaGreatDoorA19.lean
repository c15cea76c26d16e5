/-
  Part of the proof of statement 7
-/
import Derived.Test.YtogfcjbgeebfkaaGreatDoorA17
import Derived.Test.YtogfcjbgeebfkaaGreatDoorA18
import Derived.Test.YtogfcjbgeebfkaaGreatDoorA11
set_option linter.unusedVariables false
set_option linter.unusedSimpArgs false
set_option maxRecDepth 100000
set_option maxHeartbeats 16000000
namespace Go.Proofs.YtogfcjbgeebfkaaGreatDoor
open Go Go.Av Go.aD
attribute [local congr] aY aS aV aQ bD aX aW aH bE
attribute [local irreducible] FC bT eX
theorem Yo(x m:Int)(hm:m.natAbs<2^62)(H:aA):Sg 53 [.int .i64 x,.int .i64 m] H (.ret (.bool (decide (x>m)||decide (x< -m)))) H:=by
 refine So bKe Zac ?_ H;unfold W53;dsimp only;have wn:IntKind.i64.wrap (0 -m)= -m:=(wrap_i64 A0 A0).trans A0;refine bX ?_;refine Tz ?_;refine bY ?_;by_cases h:x>m
 . have hb:=Aj h;simp only[↓zP,zJ,seval,hb];exact ZaB
 have hb:=Ad h;simp only[↓zP,zJ,seval,hb,wn];exact ZaB
theorem xo{t1 t2:Nat}(h1:Nat.blt t1 2=true)(h2:Nat.blt t2 2=true){a b:List aD.V}(ha:a.length<2^30)(hb:b.length<2^30)(H:aA):
 Sg 194 [.bC t1 3 (bK a),.bC t2 3 (bK b)] H (.ret (.bool (decide (a=b)))) H:=by
 refine So bBj (by simp only[sf,cF h1,cF h2]) ?_ H;unfold aQd;dsimp only;refine bX ?_;refine Tz ?_;refine bY ?_;refine aT fun K hK=>?_;by_cases hl:a.length=b.length
 . have hn:((a.length:Int) != (b.length:Int))=false:=by simp[hl]
   simp only[↓zP,zJ,seval,aR,hn];apply hK;clear hK K;refine aT fun K hK=>?_;refine bX ?_;refine Ty ?_;refine bY ?_;refine cC [] (fun i vs H=>a.take i=b.take i) a.length A0 A1 ?_ ?_ ?_ ?_ ?_
   . exact zq
   . simp only[zB,seval,aR]
   . rfl
   . rintro i f H1 hi hk e1 wU;have hib:i<b.length:=A0;have ga:=cH hi;have gb:=cH hib;refine aP ?_;refine bX ?_;simp only[↓zP,zG,seval,e1];refine gG ?_;refine Dz ?_;simp only[↓zP,zJ,seval,zD,hk 0 rfl,hk 1 rfl,aG,aR,hi,hib,ga,gb,oL (aM a[i]),oL (aM b[i]),nM];refine bY ?_;by_cases he:a[i]=b[i]
     . have wV:(!decide (a[i]=b[i]))=false:=(by simp[he]);simp only[↓zP,zG,seval,wV];rw[Ax,Ax,wU,Ac hi,Ac hib,he]
     have wV:(!decide (a[i]=b[i]))=true:=(by simp[he]);simp only[↓zP,zG,seval,wV];refine Rx ?_;rw[Ad]
     . rfl
     rintro rfl;exact he rfl
   rintro f H1 hk wU;rw[Ay,hl,Ay] at wU;refine Tx ?_;apply hK;refine Tz ?_;refine Rx ?_;rw[Aj wU];rfl
 have hn:((a.length:Int) != (b.length:Int))=true:=by simp;omega
 simp only[↓zP,zJ,seval,aR,hn];refine Rx ?_;rw[Ad]
 . rfl
 rintro rfl;exact hl rfl
theorem Px(H:aA):Sg 191 [.bB] H (.ret .bB) H:=by
 refine eS fit eC aNm (Al rfl) Zac ?_ H;unfold aGn;dsimp only;refine bX ?_;refine Tz ?_;refine gG ?_;refine Ty ?_;refine bY ?_;refine aT fun K hK=>?_;refine bX ?_;refine Ty ?_;refine bY ?_;refine cC [] (fun i _ H=>H.get 0=some (.map [])/\1<=H.next) 0 A1 A1 ?_ ?_ ?_ ?_ ?_
 . exact zq
 . exact zq
 . exact⟨rfl,Ag _⟩
 . rintro i f H hi;exact absurd hi (Ar _)
 rintro f H hk ⟨hmp,BK⟩;refine Tx ?_;apply hK;clear hK K;refine bX ?_;refine Tz ?_;refine bY ?_;refine aT fun K hK=>?_;refine bX ?_;simp only[↓zP,zG,seval,hk 3 rfl];refine MP A1 (by simp only[↓zP,seval]) hmp fun bs c mb Vy hbn=>?_;refine Tx ?_;refine bY ?_;obtain rfl:bs=[]:=Cp Vy;generalize hit:H.next=it at *;refine aP ?_;refine iA [10] (fun m vs H'=>vs=[.bB]/\H'.get it=some (.iter 0 mb c [])/\H'.get 0=some (.sO [] [] c mb)) 0 (by rfl) ?_ ?_
 . refine⟨by simp only[sm,zB,seval],by simp only[seval,zI,hit],?_⟩;simp only[seval,zI,hit];rw[if_neg A0]
 rintro m f2 H2 eW ⟨hv,gi,g0⟩;simp only[zM] at hv;refine bX ?_;refine Tx ?_;refine OC A1 (by simp only[↓zP,seval,eW 73 rfl]) gi g0 (fun fL=>?_) fun j hj hnj=>absurd hj (Ar _);refine Tz ?_;refine bY ?_;refine Tz ?_;apply hK;clear hK K;simp only[↓zP,zG,seval,hv];refine bO (mB Tryz.aEt rfl UK 249 _) ?_;simp only[↓zP,zG,seval,hv];refine Rx ?_;exact⟨_,0,rfl,fun nw=>rfl⟩
def fy(v:aD.V):Bool:=(List.range 3).all fun i=>decide (¬(v.at i>262144)/\¬(v.at i< -262144))
theorem PF{v:aD.V}:fy v=true↔bL (2^18) v:=by
 unfold fy bL;simp only[Bg,Az,Bf];constructor
 . intro h;have h0:=h 0 A1;have h1:=h 1 A1;have h2:=h 2 A1;simp only[V.at] at h0 h1 h2;omega
 intro h i hi
 match i,hi with
 |0,_=>simp only[V.at];omega
 |1,_=>simp only[V.at];omega
 |2,_=>simp only[V.at];omega
def mk(n:Nat)(P:Nat->Bool):List AV:=(List.range n).map fun k=>AV.bool (P k)
theorem Pa(n:Nat)(P:Nat->Bool):(mk n P).length=n:=by simp[mk]
theorem aWg{n:Nat}(P:Nat->Bool){k:Nat}(h:k<n):(mk n P).getD k aB=.bool (P k):=by simp[mk,List.getD,h]
theorem aWh{n:Nat}(P:Nat->Bool){p:Nat}(h:p<n):(mk n P).take p++[AV.bool true]++(mk n P).drop (p+1)=mk n (fun k=>P k||k==p):=by
 refine Fo (by simp[mk];omega) fun k h1 h2=>?_;rw[Pa] at h2;simp only[Dx,List.getElem_append,Dp,Pa,As,Bw];by_cases hk:k<p
 . rw[dif_pos A0];simp[mk];omega
 rw[dif_neg A0];by_cases eW:k=p
 . subst eW;rw[dif_pos A0];simp[mk]
 rw[dif_neg A0];simp only[mk,List.getElem_drop,Dv,Ij];have :p+1+(k -min p n -(0+1))=k:=by omega
 rw[this];simp[eW]
def gJ(S:List (aD.V×Int))(L:aD.V×Int->List Nat)(k:Nat):Bool:=S.any fun q=>(L q).contains k
def gS(C:List aD.V)(S:List (aD.V×Int))(L:aD.V×Int->List Nat):List aD.V:=((List.range C.length).filter (gJ S L)).map fun k=>C.getD k V0
def iP(l C:List aD.V)(S:List (aD.V×Int))(L:aD.V×Int->List Nat):AV×Int:=
 if 64<l.length then(.bB,2) else if l.all fy=false then(.bB,1) else if S.length<4 then(.bB,120) else if 64<S.length then(.bB,2) else(jH 3 (bK (gS C S L)),0)
theorem aFy{tag:Nat}(ht:Nat.blt tag 2=true){l C:List aD.V}(hlen:l.length<2^30)(hC:Ord l C){S:List (aD.V×Int)}{L:aD.V×Int->List Nat}(hS:qZ C S L)(H:aA):
 Sg 193 [.bC tag 3 (bK l)] H (.ret (.jZ [.agg [(iP l C S L).1],.int .i64 (iP l C S L).2])) H:=by
 refine eS fit eC aNn (Al rfl) Zao ?_ H;unfold aGo;dsimp only;refine bX ?_;refine Tz ?_;refine bY ?_;refine aT fun K hK=>?_;simp only[↓zP,zJ,seval,aR];refine⟨fun h=>?_,fun hle=>?_⟩
 . have Yw:64<l.length:=by omega
   refine Rx ?_;rw[show iP l C S L=(.bB,2) from if_pos Yw];exact Zau
 have Yw:¬(64<l.length):=by omega
 apply hK;clear hK K;refine aT fun K hK=>?_;refine bX ?_;refine Ty ?_;refine bY ?_;refine cC [] (fun i _ H=>(∀v∈l.take i,fy v=true)/\H.get 0=some (.cells [.bB] false)/\1<=H.next) l.length A0 A1 ?_ ?_ ?_ ?_ ?_
 . exact zq
 . simp only[zB,seval,aR]
 . exact⟨fun v hv=>by simp at hv,by simp only[zI,seval],by simp only[zI,seval]⟩
 . rintro i f H1 hi hk e1 ⟨iE,g0,hn⟩;have hg:=cH hi;have vP:=Ah hi
   have hx:∀v,v∈l.take (i+1)->v∈l.take i\/v=l[i]:=fun v hv=>by
    exact Zaq
   generalize l[i]=x at *;have nx:¬(0=H1.next):=A0;refine aP ?_;refine bX ?_;simp only[↓zP,zJ,seval,e1,hk 22 rfl,aG,aR,hi,hg,oL (aM x)];refine gG ?_;simp only[↓zP,zJ,seval,oL (aM x)];refine bY ?_;refine fC [] (fun j _ H=>(∀c,c<j->¬(x.at c>262144)/\¬(x.at c< -262144))/\H.get 0=some (.cells [.bB] false)/\1<=H.next) 3 A1 rfl A1 ?_ ?_ ?_ ?_
   . exact zq
   . refine⟨fun c hc=>absurd hc (Ar _),?_,?_⟩
     . rw[aA.aC,if_neg nx,aA.aI,if_neg nx];exact g0
     simp only[aA.bA,aA.bH];omega
   . rintro j f2 H2 hj eW e2 ⟨hc,yI,IZ⟩;have IX:j<=2:=by omega
     have Yx:(x.at j>262144\/x.at j< -262144)->l.all fy=false:=fun h=>by rw[<-Fs,Bg];intro ha;have :=ha x vP;simp only[fy,Bg,Az,Bf] at this;have :=this j hj;omega
     refine aP ?_;by_cases c1:x.at j>262144
     . have d1:=Aj c1;simp only[↓zP,zJ,seval,e2,eW 28 rfl,aG,jL x hj,aM,hj,IX,d1,eW 2 rfl,hk 2 rfl,yI];refine⟨rfl,_,by simp only[↓zP,zR,seval,eW 2 rfl,hk 2 rfl];rfl,?_⟩;exact Zar
     have d1:=Ad c1;by_cases c2:x.at j< -262144
     . have d2:=Aj c2;simp only[↓zP,zJ,seval,e2,eW 28 rfl,aG,jL x hj,aM,hj,IX,d1,d2,eW 2 rfl,hk 2 rfl,yI];refine⟨rfl,_,by simp only[↓zP,zR,seval,eW 2 rfl,hk 2 rfl];rfl,?_⟩;exact Zar
     have d2:=Ad c2;simp only[↓zP,zJ,seval,e2,eW 28 rfl,aG,jL x hj,aM,hj,IX,d1,d2];refine⟨fun c h=>?_,yI,IZ⟩;by_cases hcj:c=j
     . subst hcj;exact⟨c1,c2⟩
     exact hc c A0
   rintro f2 H2 eW ⟨hc,yI,IZ⟩;refine Tx ?_;refine⟨fun v hv=>?_,yI,IZ⟩
   rcases hx v hv with h|rfl
   . exact iE v h
   simp only[fy,Bg,Az,Bf];exact fun c h=>hc c h
 rintro f H1 hk ⟨iE,g0,hn⟩;rw[Ay] at iE;have fL:l.all fy=true:=Bg.2 iE;refine Tx ?_;apply hK;clear hK K;have hNr:∀v∈C,bL (2^18) v:=fun v hv=>PF.1 (iE v ((hC.mem v).1 hv))
 have hCl:C.length<=64:=by have :=rK C l (Hx (fun {a b} (h:gV a b) (e:a=b)=>gV.gd b (by rw[e] at h;exact h)) hC.RV) fun v hv=>(hC.mem v).1 hv;omega
 have DY:∀H,Sg 191 [jH 3 (bK C)] H (.ret (jH 4 (S.map jG))) H:=fun H=>by
  by_cases hc:C=[]
  . subst hc
    have hSn:S=[]:=Fp.2 fun q hq=>by obtain⟨i,j,k,_,_,h,_⟩:=gA ((hS.fl.mem q).1 hq);exact absurd h (Ar _)
    subst hSn;exact Px H
  rw[show jH 3 (bK C)=.bC 0 3 (bK C) from if_neg (by simpa [bK] using hc)];exact Ly A1 hNr (Ag _) hCl hS.fl H
 have Oz:∀H,Sg 252 [.bC tag 3 (bK l)] H (.ret (jH 3 (bK C))) H:=ui ht A0 hC;refine bX ?_;simp only[↓zP,zJ,seval,hk 0 rfl];refine bO (Oz _) ?_;refine Tz ?_;refine gG ?_;refine Tz ?_;refine bO (DY _) ?_;refine Tz ?_;refine bY ?_;by_cases hS4:S.length<4
 . have hO:iP l C S L=(.bB,120):=(if_neg Yw).trans ((if_neg (by rw[fL];decide)).trans (if_pos hS4));by_cases vm:S=[]
   . subst vm;rw[show jH 4 (List.map jG [])=.bB from rfl];refine aT fun K hK=>?_;simp only[↓zP,zJ,seval,hk 2 rfl,g0];refine⟨fun _=>?_,fun h=>absurd (show((0:Int)<4) by decide) (by simp at h)⟩;refine⟨rfl,_,by simp only[↓zP,zR,seval,hk 2 rfl];rfl,?_⟩;rw[hO];exact Zau
   rw[show jH 4 (S.map jG)=.bC 0 4 (S.map jG) from if_neg (by simpa using vm)];refine aT fun K hK=>?_;simp only[↓zP,zJ,seval,hk 2 rfl,g0,Ai];refine⟨fun _=>?_,fun h=>absurd hS4 A0⟩;refine⟨rfl,_,by simp only[↓zP,zR,seval,hk 2 rfl];rfl,?_⟩;rw[hO];exact Zau
 have vm:S≠[]:=fun h=>hS4 (by rw[h];decide);rw[show jH 4 (S.map jG)=.bC 0 4 (S.map jG) from if_neg (by simpa using vm)]
 have hCe:bK C≠[]:=fun h=>vm (Fp.2 fun q hq=>by
  obtain⟨i,j,k,_,_,h',_⟩:=gA ((hS.fl.mem q).1 hq);have :C.length=0:=by rw[<-aR,h];rfl
  omega)
 rw[show jH 3 (bK C)=.bC 0 3 (bK C) from if_neg hCe];refine bX ?_;simp only[↓zP,zJ,seval,Ai];refine⟨fun h=>absurd h A0,fun _=>?_⟩;refine bY ?_;by_cases IQ:64<S.length
 . have hO:iP l C S L=(.bB,2):=(if_neg Yw).trans ((if_neg (by rw[fL];decide)).trans ((if_neg hS4).trans (if_pos IQ)));refine aT fun K hK=>?_;simp only[↓zP,zJ,seval,hk 2 rfl,g0,Ai];refine⟨fun _=>?_,fun h=>absurd IQ A0⟩;refine⟨rfl,_,by simp only[↓zP,zR,seval,hk 2 rfl];rfl,?_⟩;rw[hO];exact Zau
 refine bX ?_;simp only[↓zP,zJ,seval,Ai];refine⟨fun h=>absurd h A0,fun _=>?_⟩;refine bY ?_;have hO:iP l C S L=(jH 3 (bK (gS C S L)),0):=(if_neg Yw).trans ((if_neg (by rw[fL];decide)).trans ((if_neg hS4).trans (if_neg IQ)));rw[hO]
 have bIz:(List.replicate C.length [AV.bool false]).flatten=mk C.length (fun _=>false):=by
  have :∀n:Nat,(List.replicate n [AV.bool false]).flatten=List.replicate n (AV.bool false):=fun n=>by
   induction n with
   |zero=>rfl
   |succ n ih=>rw[Fj,Cd,ih];rfl
  rw[this];exact Fo (by simp[mk]) fun k h1 h2=>by simp[mk]
 have h40:C.length<=2^40:=by omega
 refine bX ?_;simp only[↓zP,zJ,seval,aR,aG,h40,bIz];refine bY ?_;have Xv:¬(0=H1.next):=by omega
 refine aT fun K hK=>?_;refine bX ?_;simp only[↓zP,zG,seval,Ai];refine bY ?_;generalize aUj:H1.next=sid at *;refine cC [] (fun i _ H'=>H'.get 0=some (.cells [.bB] false)/\H'.get sid=some (.cells (mk C.length (fun k=>(S.take i).any fun q=>(L q).contains k)) false)/\sid<H'.next) S.length A0 A1 ?_ ?_ ?_ ?_ ?_
 . exact zq
 . exact zq
 . refine⟨by rw[aA.aI,aUj,if_neg Xv];exact g0,by rw[aA.aI,aUj,if_pos rfl];rfl,by rw[aA.bH,aUj];omega⟩
 . rintro i f2 H2 hi eW e2 ⟨m0,ms,JA⟩;have hg:(S.map jG).getD i []=jG S[i]:=fB hi;have fo:=Ah hi;have hq:=oF hNr ((hS.fl.mem _).1 fo);have hpo:=hS.po _ fo
   have uA:∀k,((S.take (i+1)).any fun q=>(L q).contains k)=(((S.take i).any fun q=>(L q).contains k)||(L S[i]).contains k):=fun k=>by rw[Ax,Jj];simp[hi]
   simp only[uA];generalize S[i]=q at *;have p4:(jG q).length=4:=rfl;have hpg:=Py (tag:=0) A1 hNr (Ag _) hCl hq A1 hpo;have hLl:∀k∈L q,k<C.length:=fun k hk=>(bU.1 (hpo.aCk hk)).1
   have bLr:(L q).length<2^30:=by obtain⟨s,r,m,e,W,h⟩:=hpo.ex;rw[h,Ai,Bu];have h1:=W.le;have h2:=Db (fun k=>decide (aD.dot q.1 (C.getD k V0)=q.2)) (List.range C.length);rw[Bu] at h2;have h3:(gC (fun i=>C.getD i V0) C.length q.1 q.2).length<=C.length:=h2;omega
   refine aP ?_;refine bX ?_;simp only[↓zP,zJ,seval,e2,eW 56 rfl,aG,Ai,hi,hg,oL p4];refine gG ?_;simp only[↓zP,zJ,seval,eW 8 rfl,oL p4];refine bO (hpg _) ?_;simp only[↓zP,zG,seval,dD];refine bY ?_;have wu:¬(0=H2.next):=A0;have nxs:¬(sid=H2.next):=A0;refine cC [] (fun j _ H'=>H'.get 0=some (.cells [.bB] false)/\H'.get sid=some (.cells (mk C.length (fun k=>((S.take i).any fun q=>(L q).contains k)||((L q).take j).contains k)) false)/\sid<H'.next) (L q).length A0 A1 ?_ ?_ ?_ ?_ ?_
   . exact zq
   . exact zq
   . refine⟨by rw[aA.aC,if_neg wu,aA.aI,if_neg wu];exact m0,?_,by simp only[aA.bA,aA.bH];omega⟩;rw[aA.aC,if_neg nxs,aA.aI,if_neg nxs,ms];simp
   . rintro j f3 H3 hj kR e3 ⟨m0',ms',DX⟩;have vq:=nR hj;have DY:=hLl _ (Ah hj)
     have htj:∀k,((L q).take (j+1)).contains k=(((L q).take j).contains k||k==(L q)[j]):=fun k=>by rw[Di];simp only[Dq,List.contains_iff_mem,Dh,Ax,Ac hj,Option.toList_some,Aq,Cc]
     simp only[htj];generalize (L q)[j]=p at *;have bIv:p+1<=C.length:=DY;have EA:=aWh (fun k=>((S.take i).any fun q=>(L q).contains k)||((L q).take j).contains k) DY;refine aP ?_;simp only[↓zP,zJ,seval,e3,kR 64 rfl,kR 10 rfl,eW 10 rfl,aG,dD,hj,vq,DY,bIv,ms',Pa];refine⟨(if_neg A0).trans m0',?_,DX⟩;rw[EA];simp only[Bool.or_assoc]
   rintro f3 H3 kR ⟨m0',ms',DX⟩;rw[Ay] at ms';refine Tx ?_;exact⟨m0',ms',DX⟩
 rintro f2 H2 eW ⟨m0,ms,JA⟩;rw[Ay] at ms;refine Tx ?_;apply hK;clear hK K;have hP:∀k,(S.any fun q=>(L q).contains k)=gJ S L k:=fun k=>rfl;simp only[hP] at ms;refine bX ?_;refine Tz ?_;refine bY ?_;refine aT fun K hK=>?_;refine bX ?_;simp only[↓zP,zG,seval,eW 8 rfl,aR];refine bY ?_;have z0:¬(0=H2.next):=by omega
 have zs:¬(sid=H2.next):=by omega
 generalize ho:H2.next=ob at *;refine cC [] (fun i _ H'=>H'.get 0=some (.cells [.bB] false)/\H'.get sid=some (.cells (mk C.length (gJ S L)) false)/\ob<H'.next/\∃v,H'.get ob=some (.cells [v] false)/\Own H' 3 v (bK (((List.range i).filter (gJ S L)).map fun k=>C.getD k V0))/\(((List.range i).filter (gJ S L)).map (fun k=>C.getD k V0)=[]->v=.bB)) C.length A0 A1 ?_ ?_ ?_ ?_ ?_
 . exact zq
 . exact zq
 . refine⟨by rw[aA.aI,ho,if_neg z0];exact m0,by rw[aA.aI,ho,if_neg zs];exact ms,by rw[aA.bH,ho];omega,.bB,by rw[aA.aI,ho,if_pos rfl],.nil _ _,fun _=>rfl⟩
 . rintro i f3 H3 hi kR e3 ⟨q0,qs,qn,v,qv,qo,qe⟩;have hg:=cH hi;have LV:C.getD i V0=C[i]:=by simp[List.getD,hi]
   have aBh:((List.range (i+1)).filter (gJ S L)).map (fun k=>C.getD k V0)=((List.range i).filter (gJ S L)).map (fun k=>C.getD k V0)++(if gJ S L i then [C[i]] else []):=by
    rw[Ei,Js,Cn];congr 1;simp only[Kj,Ku];split
    . rw[Cq,LV];rfl
    rfl
   have zQ:(((List.range i).filter (gJ S L)).map fun k=>C.getD k V0).length<=64:=by rw[Ai];have :=Db (gJ S L) (List.range i);rw[Bu] at this;omega
   rw[aBh];generalize ((List.range i).filter (gJ S L)).map (fun k=>C.getD k V0)=els at *;generalize C[i]=x at *;have n0:¬(0=H3.next):=A0;have ns:¬(sid=H3.next):=A0;have nb:¬(ob=H3.next):=A0;have Xm:i+1<=C.length:=hi;have hmg:=aWg (gJ S L) hi;refine aP ?_;refine bX ?_;simp only[↓zP,zJ,seval,e3,kR 75 rfl,aG,aR,hi,hg,oL (aM x)];refine bY ?_;generalize hX:(H3.alloc _).set H3.next _=H4;have y0:H4.get 0=some (.cells [.bB] false):=(by subst hX;rw[aA.aC,if_neg n0,aA.aI,if_neg n0];exact q0);have ys:H4.get sid=some (.cells (mk C.length (gJ S L)) false):=(by subst hX;rw[aA.aC,if_neg ns,aA.aI,if_neg ns];exact qs);have yv:H4.get ob=some (.cells [v] false):=(by subst hX;rw[aA.aC,if_neg nb,aA.aI,if_neg nb];exact qv);have yx:H4.get H3.next=some (.cells (cE x) false):=Zag;have yn:H4.next=H3.next+1:=by subst hX;simp only[aA.bA,aA.bH]
   have yo:Own H4 3 v (bK els):=by refine BZ qo A0 fun k h1 h2=>?_;subst hX;rw[aA.aC,if_neg A0,aA.aI,if_neg A0];exact h2
   clear hX;generalize H3.next=r3 at *
   cases hu:gJ S L i with
   |false=>rw[hu] at hmg;simp only[↓zP,zJ,seval,kR 10 rfl,eW 10 rfl,aG,hi,Xm,ys,Pa,hmg];exact⟨y0,trivial,by omega,v,yv,yo,qe⟩
   |true=>
    rw[hu] at hmg;simp only[↓zP,zJ,seval,kR 10 rfl,eW 10 rfl,aG,hi,Xm,ys,Pa,hmg,kR 15 rfl,yv,yx,oL (aM x)];obtain⟨H5,z1,z2,z3,z4,z5⟩:=Has.push (.inr yo) (ys:=[cE x]) (bytes:=24) rfl (by rw[aR,As,Bw];omega);rw[eL];have w2:=(z4 ob A0 (by rw[yv];simp)).trans yv;simp only[z1,bQ,zJ,seval,w2];refine⟨(if_neg A0).trans ((z4 0 A0 (by rw[y0];simp)).trans y0),(if_neg A0).trans ((z4 sid A0 (by rw[ys];simp)).trans ys),by omega,_,rfl,?_,fun h=>?_⟩
    . rw[show bK (els++[x])=bK els++[cE x] from by simp[bK]];exact .inr ⟨H4.next,rfl,by simp only[aA.bA];omega,by rw[aA.aC,if_neg A0];exact z3⟩
    simp at h
 rintro f3 H3 kR ⟨q0,qs,qn,v,qv,qo,qe⟩;refine Tx ?_;apply hK;clear hK K;have hL:((List.range C.length).filter (gJ S L)).map (fun k=>C.getD k V0)=gS C S L:=rfl;rw[hL] at qo qe;simp only[↓zP,zJ,seval,kR 15 rfl,kR 2 rfl,eW 2 rfl,hk 2 rfl,qv,q0];refine⟨rfl,_,by simp only[↓zP,zR,seval,kR 2 rfl,eW 2 rfl,hk 2 rfl];rfl,?_⟩;refine⟨_,2,rfl,fun nw=>?_⟩
 exact Zap
theorem PB{C:List aD.V}{S:List (aD.V×Int)}{L:aD.V×Int->List Nat}(hS:qZ C S L)(cG:S≠[]):gS C S L≠[]:=by
 obtain⟨q,r,rfl⟩:=Ep cG;obtain⟨s,r',m,e,W,h⟩:=(hS.po q Bc).ex;have hm:s∈L q:=by rw[h];exact Bm.2 ⟨0,Az.2 W.pos,rfl⟩
 have hs:s<C.length:=(bU.1 W.hs).1;intro hh;have :C.getD s V0∈gS C (q::r) L:=Bm.2 ⟨s,Fk.2 ⟨Az.2 hs,by simp[gJ,hm]⟩,rfl⟩;rw[hh] at this;cases this
def OS(l C:List aD.V)(S:List (aD.V×Int))(L:aD.V×Int->List Nat):Int:=
 if(iP l C S L).2=0/\gS C S L≠l then 3 else(iP l C S L).2
theorem UA{l C:List aD.V}{S:List (aD.V×Int)}{L:aD.V×Int->List Nat}(h:(iP l C S L).2=0):S≠[]/\(iP l C S L).1=jH 3 (bK (gS C S L))/\l.length<=64:=by
 unfold iP at h ⊢;split at h
 . cases h
 split at h
 . cases h
 split at h
 . cases h
 split at h
 . cases h
 rename_i h1 h2 h3 h4;rw[if_neg h1,if_neg h2,if_neg h3,if_neg h4];exact⟨fun e=>h3 (by rw[e];decide),rfl,by omega⟩
theorem Tw{tag:Nat}(ht:Nat.blt tag 2=true){l C:List aD.V}(hlen:l.length<2^30)(hC:Ord l C){S:List (aD.V×Int)}{L:aD.V×Int->List Nat}(hS:qZ C S L)(H:aA):
 Sg 101 [.agg [.bC tag 3 (bK l)]] H (.ret (.int .i64 (OS l C S L))) H:=by
 refine So aMz Zao ?_ H;unfold aGa;dsimp only;have hH:=fun H=>aFy ht hlen hC hS H;unfold OS;have h0:=UA (l:=l) (C:=C) (S:=S) (L:=L);generalize iP l C S L=o at *;obtain⟨ov,oc⟩:=o;dsimp only at hH h0 ⊢;refine bX ?_;refine Ty ?_;refine gG ?_;refine Ty ?_;refine bO (hH _) ?_;refine Ty ?_;refine bY ?_;by_cases hc:oc=0
 . subst hc;obtain⟨hSn,rfl,bHz⟩:=h0 rfl;have cG:=PB hS hSn;have rY:jH 3 (bK (gS C S L))=.bC 0 3 (bK (gS C S L)):=if_neg (by simpa [bK] using cG);rw[rY]
   have IY:(gS C S L).length<2^30:=by have hCl:C.length<=l.length:=rK C l (Hx (fun {a b} (h:gV a b) (e:a=b)=>gV.gd b (by rw[e] at h;exact h)) hC.RV) fun v hv=>(hC.mem v).1 hv;have :=Db (gJ S L) (List.range C.length);rw[Bu] at this;simp only[gS,Ai];omega
   have hb:((0:Int)==0)=true:=rfl;have hE:=fun H=>xo (t1:=0) (t2:=tag) rfl ht IY hlen H;refine aT fun K hK=>?_;simp only[↓zP,zJ,seval,hb];refine bO (hE _) ?_;by_cases he:gS C S L=l
   . have hd:=Aj he;simp only[↓zP,zJ,seval,hd];apply hK;clear hK K;refine Tz ?_;refine Rx ?_;rw[if_neg (fun h=>h.2 he)];rfl
   have hd:=Ad he;simp only[↓zP,zJ,seval,hd];refine Rx ?_;rw[if_pos ⟨trivial,he⟩];rfl
 have hb:(oc==0)=false:=Dr.2 hc;refine bX ?_;simp only[↓zP,zG,seval,hb];refine bY ?_;refine Tz ?_;refine Rx ?_;rw[if_neg (fun h=>hc h.1)];rfl
theorem NV{id r:Nat}{o:Bool}{H:aA}(hr:H.get r=some (.cells [.bB] o)):Sg 324 [.yield id,.ref r 0] H (.ret (.jZ [])) H:=by
 refine mA aNx (Al rfl) ?_;unfold aGy;dsimp only;refine bX ?_;simp only[↓zP,zJ,Nat.reduceLT,hr];refine bY ?_;refine cC [] (fun i vs H'=>H'=H) 0 A1 A1 ?_ ?_ ?_ ?_ ?_
 . simp only[zB]
 . simp only[zB,Nat.reduceEqDiff];rfl
 . rfl
 . rintro i f H1 hi;exact absurd hi (Ar _)
 rintro f H1 hk rfl;refine⟨rfl,_,by simp only[zR];rfl,?_⟩;exact⟨rfl,rfl⟩
theorem YH(H:aA):Sg 291 [.bB] H (.ret (.func (.func 324) [] [.ref H.next 0])) (H.alloc (.cells [.bB] false)):=by refine mA aNu (Al rfl) ?_;unfold aGv;dsimp only;simp only[↓zP,zJ,Nat.reduceLT,Nat.reduceEqDiff];refine⟨rfl,_,by simp only[↓zP,zR];rfl,?_⟩;exact⟨rfl,rfl⟩
theorem Qn{r:Nat}{o:Bool}{H:aA}(we:r<H.next)(hr:H.get r=some (.cells [.bB] o)):
 ∃H',Sg 350 [.bB,.func (.func 324) [] [.ref r 0]] H (.ret .bB) H':=by
 suffices h:∃out H',out=.ret .bB/\Sg 350 [.bB,.func (.func 324) [] [.ref r 0]] H out H' by obtain⟨_,H',rfl,hS⟩:=h;exact⟨H',hS⟩
 refine yC fit aNy (Al rfl) ?_;unfold aGz;dsimp only;refine bX ?_;simp only[↓zP,zJ,Nat.reduceLT];refine bY ?_;refine aT fun K hK=>?_;refine bX ?_;simp only[↓zP,zJ,Nat.reduceLT,Nat.reduceEqDiff];refine bY ?_;have hf2:(iZ (iZ (iZ (fO [.bB,.func (.func 324) [] [.ref r 0]]) 2 (.ref H.next 0)) 4 .bB) 6 (.func (.func 324) [] [.ref r 0])) 2=.ref H.next 0:=rfl;have hf6:(iZ (iZ (iZ (fO [.bB,.func (.func 324) [] [.ref r 0]]) 2 (.ref H.next 0)) 4 .bB) 6 (.func (.func 324) [] [.ref r 0])) 6=.func (.func 324) [] [.ref r 0]:=rfl;generalize iZ (iZ (iZ (fO [.bB,.func (.func 324) [] [.ref r 0]]) 2 (.ref H.next 0)) 4 .bB) 6 (.func (.func 324) [] [.ref r 0])=f at *;refine aP ?_;refine FD (by rw[jK];exact hf6) ?_;simp only[aA.bH];generalize Ov:KT.mk [7] _ _=key
 refine⟨_,_,_,_,_,NV (o:=o) (by rw[aA.aI,if_neg Zaf,aA.aI,if_neg Zaf,aA.aI,if_neg A0];exact hr),by rw[aA.aI];simp;exact⟨rfl,rfl,rfl⟩,fun Hf hf=>?_⟩
 obtain⟨f1,f2⟩:=hf;show K f [.mark (H.next+1)] Hf;apply hK;clear hK K;have b0:Hf.get H.next=some (.cells [.bB] false):=by rw[f2,if_neg A0];simp[aA.aI];omega
 have b1:Hf.get (H.next+1)=some .MV:=by rw[f2,if_neg A0];simp[aA.aI]
 simp only[↓zP,zJ,Nat.reduceLT,hf2,b0];exact⟨b1,[.bB],rfl,rfl⟩
theorem VD{r:Nat}{o:Bool}{H:aA}(we:r<H.next)(hr:H.get r=some (.cells [.bB] o)):
 ∃H',Sg 322 [.func (.func 324) [] [.ref r 0]] H (.ret .bB) H':=by
 obtain⟨H',hS⟩:=Qn we hr;refine⟨H',?_⟩;refine mA aNw (Al rfl) ?_;unfold aGx;dsimp only;simp only[↓zP,zJ,Nat.reduceLT,Nat.reduceEqDiff];refine bO (hS) ?_;simp only[↓zP,zG,Nat.reduceLT];refine⟨rfl,_,by simp only[↓zP,zR];rfl,?_⟩;exact⟨rfl,rfl⟩
theorem OH{r:Nat}{o:Bool}{H:aA}(we:r<H.next)(hr:H.get r=some (.cells [.bB] o)):
 ∃H',Sg 290 [.func (.func 324) [] [.ref r 0],.func (.func 292) [] []] H (.ret .bB) H':=by
 obtain⟨H1,hS⟩:=VD we hr;refine⟨H1,?_⟩;refine mA aBz (Al rfl) ?_;unfold zh;dsimp only;simp only[↓zP,zJ,Nat.reduceLT,Nat.reduceEqDiff];refine bO (hS) ?_;simp only[↓zP,zJ,Nat.reduceLT,Nat.reduceEqDiff];refine bO (mB Tryz.aEv rfl UL 292 _) ?_;simp only[↓zP,zG,Nat.reduceEqDiff];refine⟨rfl,_,by simp only[↓zP,zR];rfl,?_⟩;exact⟨rfl,rfl⟩
theorem ao(H:aA):Sg 252 [.bB] H (.ret .bB) H:=by refine eS fit eC aNt (Al rfl) Zac ?_ H;unfold aGu;dsimp only;obtain⟨H1,hS⟩:=OH (r:=0) (o:=false) (H:=(aA.mk 0 .nil).alloc (.cells [.bB] false)) A2 rfl;simp only[↓zP,zJ,Nat.reduceLT,Nat.reduceEqDiff];refine bO (YH _) ?_;simp only[];refine bO (hS) ?_;simp only[↓zP,zG,Nat.reduceLT];refine bO (MN _) ?_;simp only[↓zP,zG,Nat.reduceLT];refine⟨rfl,_,by simp only[↓zP,zR];rfl,?_⟩;exact⟨_,0,rfl,fun nw=>rfl⟩
theorem xz(H:aA):Sg 193 [.bB] H (.ret (.jZ [.agg [.bB],.int .i64 120])) H:=by
 refine eS fit eC aNn (Al rfl) Zac ?_ H;unfold aGo;dsimp only;refine bX ?_;simp only[↓zP,zG,Nat.reduceLT];refine gG ?_;simp only[↓zP,zJ,Nat.reduceLT,Nat.reduceEqDiff];refine⟨fun h=>absurd h A1,fun _=>?_⟩;refine bY ?_;refine aT fun K hK=>?_;refine bX ?_;simp only[↓zP,zJ,Nat.reduceLT,Nat.reduceEqDiff];refine bY ?_;refine cC [] (fun i _ H=>H.get 0=some (.cells [.bB] false)) 0 A1 A1 ?_ ?_ ?_ ?_ ?_
 . simp only[zB]
 . simp only[zB,Nat.reduceEqDiff];rfl
 . simp only[zI]
 . rintro i f H1 hi;exact absurd hi (Ar _)
 rintro f H1 hk g0;simp only[↓zP];apply hK;clear hK K;refine bX ?_;simp only[↓zP,zJ,Nat.reduceLT,Nat.reduceEqDiff,hk 0 rfl];refine bO (ao _) ?_;simp only[↓zP,zG,Nat.reduceLT];refine gG ?_;simp only[↓zP,zG,Nat.reduceLT];refine bO (Px _) ?_;simp only[↓zP,zG,Nat.reduceLT];refine bY ?_;refine aT fun K hK=>?_;simp only[↓zP,zJ,Nat.reduceLT,Nat.reduceEqDiff,Int.reduceLT,hk 2 rfl,g0];refine⟨fun _=>?_,fun h=>absurd (show((0:Int)<4) by decide) (by simp at h)⟩;refine⟨rfl,_,by simp only[↓zP,zR,Nat.reduceEqDiff,hk 2 rfl,g0];rfl,?_⟩;exact Zau
theorem RL(H:aA):Sg 101 [.agg [.bB]] H (.ret (.int .i64 120)) H:=by
 refine So aMz Zac ?_ H;unfold aGa;dsimp only;refine bX ?_;simp only[↓zP,zJ,Nat.reduceLT];refine gG ?_;simp only[↓zP,zJ,Nat.reduceLT,Nat.reduceEqDiff];refine bO (xz _) ?_;simp only[↓zP,zJ,Nat.reduceLT,Nat.reduceEqDiff,Nat.reduceAdd];refine bY ?_;have hb:((120:Int)==0)=false:=by decide
 refine bX ?_;simp only[↓zP,zJ,Nat.reduceLT,Nat.reduceEqDiff,hb];refine bY ?_;simp only[↓zP,zG,Nat.reduceLT,Nat.reduceEqDiff];refine⟨rfl,_,by simp only[↓zP,zR];rfl,?_⟩;rfl
def pC(p:Int×Int):List AV:=[.int .i64 p.1,.int .i64 p.2]
theorem Pu(p:Int×Int):(pC p).length=2:=rfl
theorem UO(p:Int×Int):cM (pC p)=true:=by simp only[pC,sf]
def q9(p q:Int×Int):Int:=orZ [uE p.1 q.1,uE p.2 q.2]
theorem UP(p q:Int×Int):q9 p q<0↔p.1<q.1\/(p.1=q.1/\p.2<q.2):=by
 unfold q9 orZ uE
 rcases Ev p.1 q.1 with h|h|h
 . simp[h]
 . rcases Ev p.2 q.2 with h2|h2|h2
   . simp[h,h2]
   . simp[h,h2]
   simp[h,h2,Km h2]
 simp[h,Km h,Jp h]
theorem jf(p q:Int×Int)(H:aA):Sg 285 [.agg (pC p),.agg (pC q)] H (.ret (.int .i64 (q9 p q))) H:=by
 refine So bDq (by simp only[sf,UO]) ?_ H;unfold aSk;dsimp only;refine aT fun K hK=>?_;simp only[↓zP,zG,seval,zI];apply hK;clear hK K;refine aT fun K hK=>?_;refine Dz ?_;simp only[↓zP,zG,seval,zD,zI,pC,pZ];refine dM (jA p.1 q.1 _) ?_;simp only[↓zP,zG,seval,zD,zI,pZ];refine dM (jA p.2 q.2 _) ?_;simp only[↓zP,zG,seval,zD,zI];have SN:=yg [uE p.1 q.1,uE p.2 q.2] A2;simp only[EN,sm] at SN;refine dM (SN _) ?_;simp only[↓zP,zG,seval,zD,zI];apply hK;clear hK K;refine Tx ?_
 (refine Rx ?_;rfl)
def pV(q:Int×Int):CX 2:=⟨[q.1,q.2],rfl⟩
def KJ(x:CX 2):Int×Int:=(x.1.getD 0 0,x.1.getD 1 0)
theorem UQ(x:CX 2):pV (KJ x)=x:=by
 obtain⟨l,hl⟩:=x
 match l,hl with
 |[a,b],_=>rfl
theorem dq(q:Int×Int):Vh (pV q)=pC q:=rfl
theorem UY:∀S:List (Int×Int),(mO (S.map pV)).map (AV.int .i64)=(S.map pC).flatten
 |[]=>rfl
 |q::S=>by have :=UY S;simp only[mO,Cq,Ee,Cn,Cd] at this ⊢;rw[this];rfl
theorem bLd:Go.Sort.SWO (Go.Proofs.ltOf fun x y:CX 2=>q9 (KJ x) (KJ y)) where
 irrefl x:=by simp only[Go.Proofs.ltOf,UP,Cb];omega
 trans x y z h1 h2:=by simp only[Go.Proofs.ltOf,UP,Bf] at *;omega
 ntrans x y z h1 h2:=by simp only[Go.Proofs.ltOf,UP,Cb] at *;omega
theorem jb:AJ Tryz.prog 284:=⟨_,Tryz.func284,by kernel_rfl,by kernel_rfl⟩
theorem aEs(d:List (CX 2))(hd:d.length<4611686018427387904):
 ∃d':List (CX 2),d'.Perm d/\(d'.Pairwise fun a b=>¬q9 (KJ b) (KJ a)<0)/\∀(H:aA) (id:Nat) (eB:Bool),H.get id=some (.cells ((mO d).map (AV.int .i64)) eB)->
  Sg 284 [.sl id 2 0 d.length d.length,.func (.func 285) [] []] H (.ret (.jZ [])) (H.set id (.cells ((mO d').map (AV.int .i64)) eB)):=
 FJ (fun _=>rfl) Tryz.aOe A1 Tryz.isAgg23 Tryz.sizeOf23 rfl jb (jf (0,0) (0,0) ⟨0,.nil⟩).1 bLd (fun x y=>by
  have :=jf (KJ x) (KJ y) ⟨0,.nil⟩
  rwa [<-dq,<-dq,UQ,UQ] at this) d hd
def TT(H:aA)(x:Nat)(v:AV)(l:List (Int×Int)):Prop:=
 (l=[]/\v=.bB)\/∃uK,l≠[]/\v=.sl uK 2 0 l.length l.length/\H.get uK=some (.cells (l.map pC).flatten true)/\¬(x=uK)/\uK<H.next
theorem TT.push{H:aA}{x:Nat}{v:AV}{l:List (Int×Int)}(h:TT H x v l)(Qj:x<H.next)(hlen:l.length<2^30)(p:Int×Int):
 ∃v' H',fZ H 2 16 true v [pC p]=some (v',H')/\TT H' x v' (l++[p])/\H'.next=H.next+1/\H'.get x=H.get x:=by
 rcases h with ⟨rfl,rfl⟩|⟨uK,cG,rfl,hg,h1,h2⟩
 . exact⟨_,_,AL rfl A2,.inr ⟨H.next,by simp,rfl,by rw[aA.aI,if_pos rfl];rfl,by omega,by simp⟩,by simp,by rw[aA.aI,if_neg A0]⟩
 have hl4:(l.map pC).flatten.length=l.length*2:=by rw[oT (sz:=2) (fun e he=>?_),Ai];obtain⟨x,_,rfl⟩:=Bm.1 he;rfl
 refine⟨_,_,AM hg hl4 rfl (by simp only[As,Bw];omega) A1,.inr ⟨H.next,by simp,by simp,?_,by omega,by simp⟩,by simp,by rw[aA.aI,aA.bA,if_neg A0,aA.aC,if_neg A0]⟩;rw[aA.aI,aA.bA,if_pos rfl];simp
theorem TT.behind{H H':aA}{x:Nat}{v:AV}{l:List (Int×Int)}(h:TT H x v l)(hn:H'.next=H.next+1)(hs:∀j,j<H.next->H'.get j=H.get j):TT H' H.next v l:=by
 rcases h with h|⟨uK,h0,h1,h2,h3,h4⟩
 . exact .inl h
 exact .inr ⟨uK,h0,h1,(hs _ h4).trans h2,by omega,by omega⟩
def Xe(l:List Nat)(j:Nat):List (Int×Int):=(List.range j).flatMap fun i=>if l.getD i 0<l.getD ((i+1)%l.length) 0 then [((l.getD i 0:Int),(l.getD ((i+1)%l.length) 0:Int))] else []
def HG(S:List (aD.V×Int))(L:aD.V×Int->List Nat):List (Int×Int):=S.flatMap fun q=>Xe (L q) (L q).length
theorem xm{tag:Nat}(ht:Nat.blt tag 2=true){l:List aD.V}{M:Nat}(hl:∀v∈l,bL M v)(hM:M<=2^18)(hlen:l.length<=64){S:List (aD.V×Int)}{L:aD.V×Int->List Nat}(hS:qZ l S L)(cG:S≠[])(IQ:S.length<=64):
 ∃E:List (Int×Int),E.Perm (HG S L)/\(E.Pairwise fun a b=>¬q9 b a<0)/\∀H,Sg 241 [.agg [.bC tag 3 (bK l)]] H (.ret (jH 2 (E.map pC))) H:=by
 have aTl:∀q∈S,(L q).length<=64:=fun q hq=>by obtain⟨s,r,m,e,W,h⟩:=(hS.po q hq).ex;rw[h,Ai,Bu];have h1:=W.le;have h2:=Db (fun k=>decide (aD.dot q.1 (l.getD k V0)=q.2)) (List.range l.length);rw[Bu] at h2;have h3:(gC (fun i=>l.getD i V0) l.length q.1 q.2).length<=l.length:=h2;omega
 have aMm:∀T:List (aD.V×Int),(∀q∈T,(L q).length<=64)->(HG T L).length<=T.length*64:=fun T=>by
  induction T with
  |nil=>intro _;simp[HG]
  |cons q T ih=>intro h;have h1:=ih fun x hx=>h x (Aw _ hx);have h2:=h q Bc;have h3:=mJ (fun i=>if(L q).getD i 0<(L q).getD ((i+1)%(L q).length) 0 then [((((L q).getD i 0:Nat):Int),(((L q).getD ((i+1)%(L q).length) 0:Nat):Int))] else []) 1 (fun i=>by split<;>simp) (List.range (L q).length);rw[Bu,Dc] at h3;have h4:(Xe (L q) (L q).length).length<=(L q).length:=h3;simp only[HG,Ee,Ap,As,Bi,Eu] at h1 ⊢;omega
 have aAo:∀i,(HG (S.take i) L).length<2^29:=fun i=>by
  have h1:=aMm (S.take i) fun q hq=>aTl q (De hq);have h2:(S.take i).length<=S.length:=by rw[Dp];omega
  omega
 obtain⟨d',q1,q2,q3⟩:=aEs ((HG S L).map pV) (by
  have h1:=aMm S aTl;rw[Ai]
  omega)
 refine⟨d'.map KJ,?_,?_,fun H=>?_⟩
 . have h1:=q1.map KJ
   rwa [Eo,show(KJ∘pV)=id from rfl,Gs] at h1
 . rw[Ff];exact q2
 refine eS fit eC bCo (Al rfl) Zao ?_ H;unfold aRi;dsimp only;refine aT fun K hK=>?_;simp only[↓zP,zG,seval,zI];apply hK;clear hK K;refine aT fun K hK=>?_;refine Tz ?_;apply hK;clear hK K;have hF:=fun H=>CS ht hl hM hlen hS cG H;refine aT fun K hK=>?_;refine aT fun K2 dL=>?_;simp only[↓zP,zG,seval,zI];refine bO (hF _) ?_;simp only[↓zP,zG,seval,zI,Ai];apply dL;clear dL K2;refine cC [3] (fun i vs H'=>∃v x,vs=[v]/\TT H' x v (HG (S.take i) L)/\1<=H'.next) S.length A0 A1 ?_ ?_ ?_ ?_ ?_
 . exact zq
 . exact zq
 . exact⟨.bB,0,by simp only[sm,zB,seval],.inl ⟨rfl,rfl⟩,by simp only[zI,seval]⟩
 . rintro i f H1 hi hk e1 ⟨v,x,hv,hr,hn⟩;simp only[zM] at hv;have hg:(S.map (cL L)).getD i []=cL L S[i]:=fB hi
   have uA:HG (S.take (i+1)) L=HG (S.take i) L++Xe (L S[i]) (L S[i]).length:=by simp only[HG];rw[Ax,Ha];simp[hi]
   have Xl:=aAo i;have hLl:=aTl _ (Ah hi);rw[uA];generalize HG (S.take i) L=E0 at *;generalize S[i]=q at *;have p5:(cL L q).length=5:=rfl;have pa:(cL L q).getD 4 aB=.bC 0 1 (vS (L q)):=rfl;refine aP ?_;refine aT fun K2 dL=>?_;simp only[↓zP,zG,seval,zI,e1,hk 10 rfl,aG,Ai,hi,hg,oL p5];apply dL;clear dL K2;generalize hX:(H1.alloc _).set H1.next _=H4;have yn:H4.next=H1.next+1:=(by subst hX;simp only[aA.bA,aA.bH]);have y5:H4.get H1.next=some (.cells (cL L q) false):=Zag;have yr:TT H4 H1.next v E0:=hr.behind yn fun j hj=>by subst hX;rw[aA.aC,if_neg A0,aA.aI,if_neg A0]
   clear hX;generalize H1.next=r5 at *;refine aT fun K2 dL=>?_;simp only[↓zP,zG,seval,zI,y5,p5,pa,dD];apply dL;clear dL K2;refine cC [3] (fun j vs H'=>∃v,vs=[v]/\TT H' r5 v (E0++Xe (L q) j)/\r5<H'.next/\H'.get r5=some (.cells (cL L q) false)) (L q).length A0 A1 ?_ ?_ ?_ ?_ ?_
   . exact zq
   . exact zq
   . exact⟨v,by simp only[sm,zB,seval];rw[hv],by simpa [Xe] using yr,by omega,y5⟩
   . rintro j f2 H2 hj eW e2 ⟨v2,qK,ZG,JA,g5⟩;simp only[zM] at qK;refine aP ?_;refine aT fun K2 dL=>?_;have hgj:=nR hj;simp only[↓zP,zG,seval,zI,e2,eW 17 rfl,aG,dD,hj,hgj];apply dL;clear dL K2;refine aT fun K2 dL=>?_;refine Dz ?_;have wj:IntKind.i64.wrap ((j:Int)+1)=((j+1:Nat):Int):=(wrap_i64 A0 A0).trans A0;have nz:¬(((L q).length:Int)=0):=A0;have hm:(j+1)%(L q).length<(L q).length:=Bz _ A0;have tm:((j+1:Nat):Int).tmod ((L q).length:Int)=(((j+1)%(L q).length:Nat):Int):=rfl;have hgb:=nR hm
     have hed:Xe (L q) (j+1)=Xe (L q) j++(if(L q)[j]<(L q)[(j+1)%(L q).length] then [((((L q)[j]:Nat):Int),(((L q)[(j+1)%(L q).length]:Nat):Int))] else []):=by simp only[Xe];rw[Ei,Ha];simp[List.getD,hj,hm]
     have bLy:(Xe (L q) j).length<=j:=by have :=mJ (fun i=>if(L q).getD i 0<(L q).getD ((i+1)%(L q).length) 0 then [((((L q).getD i 0:Nat):Int),(((L q).getD ((i+1)%(L q).length) 0:Nat):Int))] else []) 1 (fun i=>by split<;>simp) (List.range j);rw[Bu,Dc] at this;exact this
     have aTt:E0++Xe (L q) (j+1)=(E0++Xe (L q) j)++(if(L q)[j]<(L q)[(j+1)%(L q).length] then [((((L q)[j]:Nat):Int),(((L q)[(j+1)%(L q).length]:Nat):Int))] else []):=(by rw[hed,Dx]);have hEl:(E0++Xe (L q) j).length<2^30:=(by rw[Ap];omega);generalize hE1:E0++Xe (L q) j=E1 at ZG aTt hEl;clear hed;simp only[↓zP,zG,seval,zD,zI,eW 5 rfl,g5,p5,pa,aG,dD,wj,nz,tm,hm,hgb];apply dL;clear dL K2;generalize (L q)[(j+1)%(L q).length]=b at *;generalize (L q)[j]=a at *;by_cases wU:a<b
     . have hd:decide ((a:Int)<(b:Int))=true:=Aj A0;obtain⟨v',H5,z1,z2,z3,z4⟩:=ZG.push JA hEl ((a:Int),(b:Int));have hpc:[AV.int .i64 (a:Int),.int .i64 (b:Int)]=pC ((a:Int),(b:Int)):=rfl;simp only[↓zP,zG,seval,zI,hd,qK,hpc,Pu];rw[eL];simp only[z1,bQ,seval];rw[aTt,if_pos wU];exact⟨v',rfl,z2,by omega,z4.trans g5⟩
     have hd:decide ((a:Int)<(b:Int))=false:=Ad A0;simp only[↓zP,zG,seval,zI,hd,qK];rw[aTt,if_neg wU,Cr];exact⟨v2,rfl,ZG,JA,g5⟩
   rintro f2 H2 eW ⟨v2,qK,ZG,JA,g5⟩;simp only[zM] at qK;refine Tx ?_;exact⟨v2,r5,by simp only[sm,seval];rw[qK],ZG,by omega⟩
 rintro f H1 hk ⟨v,x,hv,hr,hn⟩;simp only[zM] at hv;rw[Ay] at hr;refine Tx ?_;apply hK;clear hK K;have Xg:HG S L≠[]->(HG S L).map pV≠[]:=fun h e=>h (by simpa using e)
 rcases hr with ⟨hE,rfl⟩|⟨uK,hEn,rfl,hg,hx,we⟩
 . refine aT fun K hK=>?_;simp only[↓zP,zG,seval,hv];refine bO (mB Tryz.aOe rfl jb 285 _) ?_;refine Tx ?_;apply hK;clear hK K;simp only[↓zP,zG,seval,hv];refine Rx ?_
   have Ou:d'=[]:=by rw[hE] at q1;exact List.Perm.eq_nil q1
   rw[Ou];exact⟨_,0,rfl,fun nw=>rfl⟩
 have hgr:H1.get uK=some (.cells ((mO ((HG S L).map pV)).map (AV.int .i64)) true):=by rw[hg,UY]
 have hc:=q3 H1 uK true hgr;rw[Ai] at hc;refine aT fun K hK=>?_;simp only[↓zP,zG,seval,hv];refine bO (hc) ?_;refine Tx ?_;apply hK;clear hK K;simp only[↓zP,zG,seval,hv];have rE:d'=(d'.map KJ).map pV:=by rw[Eo];exact(El (g:=id) (fun x _=>UQ x)).trans (Gs d') |>.symm
 have Yy:((d'.map KJ).map pC).length=(HG S L).length:=by rw[Ai,Ai,q1.length_eq,Ai]
 rw[show(mO d').map (AV.int .i64)=((d'.map KJ).map pC).flatten from by rw[<-UY,<-rE]];refine Rx ?_;have hSn:¬((d'.map KJ).map pC=[]):=fun h=>hEn (Cp (by rw[<-Yy,h];rfl));refine⟨_,0,rfl,fun nw=>?_⟩;rw[<-Yy,jH,if_neg hSn];refine XH (by rw[aA.aC,if_pos rfl]) (fun e he=>?_) (dN UO _) nw;obtain⟨q,_,rfl⟩:=Bm.1 he;rfl
def EJ(l:List aD.V)(p:Nat×Nat):aD.V:=aD.sub (l.getD p.2 V0) (l.getD p.1 V0)
def pN(p:Nat×Nat):Int×Int:=(p.1,p.2)
theorem l5{tag:Nat}(ht:Nat.blt tag 2=true){l:List aD.V}{M:Nat}(hl:∀v∈l,bL M v)(hM:M<=2^18){E:List (Nat×Nat)}(hEl:E.length<=2^20)(hE0:E≠[])(hE:∀p∈E,p.1<l.length/\p.2<l.length)
 (hS:∀H,Sg 241 [.agg [.bC tag 3 (bK l)]] H (.ret (jH 2 ((E.map pN).map pC))) H) (H:aA):
 Sg 183 [.agg [.bC tag 3 (bK l)]] H (.ret (.bC 0 3 (bK (E.map (EJ l))))) H:=by
 refine eS fit eC bBb (Al rfl) Zao ?_ H;unfold aPv;dsimp only;have cS:∀k (h:k<l.length),l.getD k V0=l[k]:=fun k h=>by simp[List.getD,h]
 rw[show jH 2 ((E.map pN).map pC)=.bC 0 2 ((E.map pN).map pC) from if_neg (by simpa using hE0)] at hS;refine bX ?_;refine Ty ?_;refine gG ?_;refine Tz ?_;refine bY ?_;refine aT fun K hK=>?_;refine bX ?_;refine Ty ?_;refine bO (hS _) ?_;simp only[↓zP,zG,seval,Ai];refine bY ?_;refine cC [3] (fun i vs H'=>∃v,vs=[v]/\Own H' 3 v (bK ((E.take i).map (EJ l)))/\1<=H'.next/\H'.get 0=some (.cells [.bC tag 3 (bK l)] false)) E.length A0 A1 ?_ ?_ ?_ ?_ ?_
 . exact zq
 . exact zq
 . exact ZaI
 . rintro i f H1 hi hk e1 ⟨v,hv,ho,hn,g0⟩;simp only[zM] at hv;have hg:((E.map pN).map pC).getD i []=pC (pN E[i]):=by rw[Eo];exact fB hi
   obtain⟨ha,hb⟩:=hE _ (Ah hi)
   have uA:(E.take (i+1)).map (EJ l)=(E.take i).map (EJ l)++[EJ l E[i]]:=by rw[Ax,Cn];simp[hi]
   have htl:((E.take i).map (EJ l)).length<=2^20:=Zaf;rw[uA];generalize (E.take i).map (EJ l)=els at *;generalize E[i]=p at *;have Xv:¬(0=H1.next):=A0;have ga:=cH ha;have gb:=cH hb;have na:=hl _ (Ah ha);have nb:=hl _ (Ah hb);have BM:aD.sub l[p.2] l[p.1]=EJ l p:=(by simp only[EJ,cS p.2 hb,cS p.1 ha]);have q0:(pC (pN p)).getD 0 aB=.int .i64 (p.1:Int):=rfl;have q1:(pC (pN p)).getD 1 aB=.int .i64 (p.2:Int):=rfl;refine aP ?_;refine bX ?_;simp only[↓zP,zJ,seval,e1,hk 7 rfl,aG,Ai,hi,hg,oL (Pu (pN p))];refine bY ?_;generalize hX:(H1.alloc _).set H1.next _=H4;have u0:H4.get 0=some (.cells [.bC tag 3 (bK l)] false):=ZaG;have u1:H4.get H1.next=some (.cells (pC (pN p)) false):=Zag;have un:H4.next=H1.next+1:=by subst hX;simp only[aA.bA,aA.bH]
   have uo:Own H4 3 v (bK els):=by refine BZ ho A0 fun k h1 h2=>?_;subst hX;rw[aA.aC,if_neg A0,aA.aI,if_neg A0];exact h2
   clear hX;obtain⟨H5,z1,z2,z3,z4,z5⟩:=Has.push (.inr uo) (ys:=[cE (EJ l p)]) (bytes:=24) rfl (by rw[aR,As,Bw];omega);generalize H1.next=r1 at *;refine Dz ?_;simp only[↓zP,zJ,seval,zD,hk 1 rfl,hv,u0,u1,Pu,q0,q1,pZ,aG,aR,ha,hb,ga,gb,oL (aM l[p.1]),oL (aM l[p.2])];refine dM (KK nb na A0 _) ?_;rw[BM];simp only[↓zP,zJ,seval,zD,oL (aM (EJ l p))];rw[eL];simp only[z1,bQ,seval];rw[show bK (els++[EJ l p])=bK els++[cE (EJ l p)] from by simp[bK]];exact⟨by omega,_,rfl,.inr ⟨H4.next,rfl,by omega,z3⟩,by omega,(z4 0 A0 (by rw[u0];simp)).trans u0⟩
 rintro f H1 hk ⟨v,hv,ho,hn,g0⟩;simp only[zM] at hv;rw[Ay] at ho;refine Tx ?_;apply hK;simp only[↓zP,zG,seval,hv];exact Zav
end Go.Proofs.YtogfcjbgeebfkaaGreatDoor
namespace Go.Proofs.YtogfcjbgeebfkaaGreatDoor
open Go Go.Av Go.aD Go.lP
theorem tV{z:Int}(h:z.natAbs<2^250):norm z=some z:=by
 have :(2:Nat)^250<W^16:=by decide
 unfold norm;rw[if_pos A0]
theorem tU{x y:Int}{A B:Nat}(hx:x.natAbs<=A)(hy:y.natAbs<=B)(h:A*B<2^250):lO (some x) (some y)=some (x*y):=tV (by
 have :=bS hx hy
 omega)
theorem Vg{v w:aD.V}{A B:Nat}(hv:bL A v)(hw:bL B w)(h:3*(A*B)<2^240):smO (fun i=>some (v.at i)) (fun i=>some (w.at i)) 3=some (aD.dot v w):=by
 have h5:(2:Nat)^240<2^250:=by decide
 have hAB:A*B<2^250:=by omega
 have m0:=bS hv.1 hw.1;have m1:=bS hv.2.1 hw.2.1;have m2:=bS hv.2.2 hw.2.2;simp only[smO,V.at];rw[tU hv.1 hw.1 hAB,tU hv.2.1 hw.2.1 hAB,tU hv.2.2 hw.2.2 hAB];simp only[vJ];rw[tV (show(0+v.x*w.x).natAbs<2^250 by omega)];simp only;rw[tV (show(0+v.x*w.x+v.y*w.y).natAbs<2^250 by omega)];simp only;rw[tV (show(0+v.x*w.x+v.y*w.y+v.z*w.z).natAbs<2^250 by omega)];simp only[aD.dot,Int.zero_add]
theorem Ya{v w:aD.V}{A B:Nat}(hv:bL A v)(hw:bL B w)(h:3*(A*B)<2^240){i:Nat}(hi:i<3):YY (fun i=>some (v.at i)) (fun i=>some (w.at i)) i=some ((aD.aU v w).at i):=by
 have h5:(2:Nat)^240<2^250:=by decide
 have hAB:A*B<2^250:=by omega
 have key:∀a b c d:Int,a.natAbs<=A->b.natAbs<=B->c.natAbs<=A->d.natAbs<=B->vJ (lO (some a) (some b)) (NR (lO (some c) (some d)))=some (a*b -c*d):=fun a b c d h1 h2 h3 h4=>by rw[tU h1 h2 hAB,tU h3 h4 hAB];have m0:=bS h1 h2;have m1:=bS h3 h4;simp only[NR,vJ];rw[tV A0,Ju]
 match i,hi with
 |0,_=>exact key v.y w.z v.z w.y hv.2.1 hw.2.2 hv.2.2 hw.2.1
 |1,_=>exact key v.z w.x v.x w.z hv.2.2 hw.1 hv.1 hw.2.2
 |2,_=>exact key v.x w.y v.y w.x hv.1 hw.2.1 hv.2.1 hw.1
end Go.Proofs.YtogfcjbgeebfkaaGreatDoor
