/-
  Part of the proof of statement 7
-/
import Derived.Test.YtogfcjbgeebfkaaGreatDoorA23
import Derived.Test.YtogfcjbgeebfkaaGreatDoorA19
set_option linter.unusedVariables false
set_option linter.unusedSimpArgs false
set_option maxRecDepth 100000
set_option maxHeartbeats 16000000
namespace Go.Proofs.YtogfcjbgeebfkaaGreatDoor
open Go Go.Av Go.aD Go.lP
attribute [local congr] aY aS aV aQ bD aX aW aH bE
attribute [local irreducible] FC bT eX
def LI(U W:List aD.V):List aD.V:=U.flatMap fun u=>W.filterMap fun w=>if aD.aU u w=V0 then none else some (aD.aU u w)
def kI(Sa Sb:List (aD.V×Int))(U W:List aD.V):List aD.V:=(Sa++Sb).map (·.1)++LI U W
def pre(D:List aD.V)(U W:List aD.V)(i j:Nat):List aD.V:=D++LI (U.take i) W++LI ((U.drop i).take 1) (W.take j)
theorem Tb(A B W:List aD.V):LI (A++B) W=LI A W++LI B W:=by simp only[LI,Ha]
theorem cu(u:aD.V)(A B:List aD.V):LI [u] (A++B)=LI [u] A++LI [u] B:=by simp only[LI,Ee,List.flatMap_nil,Cr,List.filterMap_append]
theorem aYa(A:List aD.V):LI A []=[]:=by simp[LI]
theorem aAi(u w:aD.V):LI [u] [w]=if aD.aU u w=V0 then [] else [aD.aU u w]:=by by_cases h:aD.aU u w=V0<;>simp[LI,h]
theorem vZ{U:List aD.V}{i:Nat}(h:i<U.length):(U.drop i).take 1=[U[i]]:=by rw[Ef h];rfl
theorem EX{U:List aD.V}{i:Nat}(h:i<U.length):U.take (i+1)=U.take i++[U[i]]:=by rw[Ax];simp[h]
theorem US(D U W:List aD.V)(i:Nat):pre D U W i 0=D++LI (U.take i) W:=by simp[pre,aYa]
theorem aKp{D U W:List aD.V}{i:Nat}(h:i<U.length):pre D U W i W.length=pre D U W (i+1) 0:=by rw[US,EX h,Tb];simp only[pre,vZ h,Ay,Dx]
theorem aDp{D U W:List aD.V}{i j:Nat}(h:i<U.length)(hj:j<W.length):pre D U W i (j+1)=pre D U W i j++LI [U[i]] [W[j]]:=by simp only[pre,vZ h,EX hj,cu,Dx]
theorem aKo(Sa Sb:List (aD.V×Int))(U W:List aD.V):kI Sa Sb U W=pre ((Sa++Sb).map (·.1)) U W U.length 0:=by rw[US,Ay];rfl
theorem aKq{D U W:List aD.V}{i j:Nat}(h:i<U.length)(hj:j<=W.length):∃R,pre D U W U.length 0=pre D U W i j++R:=by
 refine⟨LI [U[i]] (W.drop j)++LI (U.drop (i+1)) W,?_⟩;rw[US,Ay]
 have e:U=U.take i++([U[i]]++U.drop (i+1)):=by rw[List.singleton_append,<-Ef h,Ht]
 have e2:LI [U[i]] W=LI [U[i]] (W.take j)++LI [U[i]] (W.drop j):=by rw[<-cu,Ht]
 conv=>lhs;rw[e]
 rw[Tb,Tb,e2];simp only[pre,vZ h,Dx]
theorem NM{ta tb:Nat}{a b:List aD.V}{Sa Sb:List (aD.V×Int)}{La Lb:aD.V×Int->List Nat}{U W:List aD.V}{MU:Nat}(hMU:MU<=2^20)
 (fa:∀H,Sg 182 [.agg [.bC ta 3 (bK a)]] H (.ret (.bC (H.next+2) 5 (Sa.map (cL La)))) (H.alloc .tok))
 (fb:∀H,Sg 182 [.agg [.bC tb 3 (bK b)]] H (.ret (.bC (H.next+2) 5 (Sb.map (cL Lb)))) (H.alloc .tok))
 (ea:∀H,Sg 183 [.agg [.bC ta 3 (bK a)]] H (.ret (.bC 0 3 (bK U))) H)
 (eb:∀H,Sg 183 [.agg [.bC tb 3 (bK b)]] H (.ret (.bC 0 3 (bK W))) H)
 (nU:∀v∈U,bL MU v) (nW:∀v∈W,bL MU v) (lSa:Sa.length<=64) (lSb:Sb.length<=64) (hSb:Sb≠[]) (lU:U.length<=2^20) (lW:W.length<=2^20)
 {id r1 r2:Nat} {o1 o2:Bool} {H:aA} (I:Nat->aA->Prop) (Stop:aA->Prop) (sep:aD.V->Bool) (AF:∀k H H',Over H H'->I k H->I k H') (aUl:∀H H',Over H H'->Stop H->Stop H')
 (fA:∀k (hk:k<(kI Sa Sb U W).length) H1,I k H1->∃H',rS Tryz.prog gv id [.agg (cE (kI Sa Sb U W)[k])] H1 (.ret (.bool (!sep (kI Sa Sb U W)[k]))) H'/\(if sep (kI Sa Sb U W)[k] then Stop H' else I (k+1) H')/\H1.next<=H'.next/\∀j,H.next<=j->j<H1.next->H'.get j=H1.get j)
 (hI0:∀k H1,I k H1->H.next<=H1.next) (b1:r1<H.next) (b2:r2<H.next) (g1:H.get r1=some (.cells [.bC ta 3 (bK a)] o1)) (g2:H.get r2=some (.cells [.bC tb 3 (bK b)] o2))
 (aCb:∀k H',I k H'->H'.get r1=some (.cells [.bC ta 3 (bK a)] o1)/\H'.get r2=some (.cells [.bC tb 3 (bK b)] o2)) (h0:I 0 H):
 ∃H',(if(kI Sa Sb U W).any sep then Stop H' else I (kI Sa Sb U W).length H')/\Sg 181 [.yield id,.ref r1 0,.ref r2 0] H (.ret (.jZ [])) H':=by
 suffices h:∃out H',(out=.ret (.jZ [])/\if(kI Sa Sb U W).any sep then Stop H' else I (kI Sa Sb U W).length H')/\Sg 181 [.yield id,.ref r1 0,.ref r2 0] H out H' by obtain⟨_,H',⟨rfl,hm⟩,hS⟩:=h;exact⟨H',hm,hS⟩
 refine eH fit bAz (Al rfl) ?_;unfold aPt;dsimp only;refine aT fun K hK=>?_;refine bX ?_;refine Dz ?_;have k2:(H.alloc .tok).get r2=H.get r2:=by rw[aA.aI,if_neg A0]
 simp only[↓zP,zJ,seval,zD,g1];refine HP A1 (by simp only[sm,zB,seval]) (fa _) A2 (fun x hx hp=>by simp only[Cc] at hx;subst hx;simp at hp) ?_;simp only[↓zP,zJ,seval,zD,g2,k2];refine⟨by rw[if_neg A0],?_⟩;refine HP A1 (by simp only[sm,zB,seval]) (fb _) A2 (fun x hx hp=>by simp at hp) ?_;have bGs:Own ((H.alloc .tok).alloc .tok) 5 (.bC (H.next+2) 5 (Sa.map (cL La))) (Sa.map (cL La)):=.inr ⟨H.next,rfl,by simp;omega,by rw[aA.aI,if_neg A2,aA.aI,if_pos rfl]⟩;obtain⟨v',H5,z1,z2,z3⟩:=bGs.append (ys:=Sb.map (cL Lb)) (bytes:=56) (by simp only[Ai];omega)
 have hov:Over H H5:=⟨by have :=z3.next;simp at this;omega,fun j hj=>by rw[z3.get j (by simp[XN];omega) Zaf,aA.aI,if_neg Zaf,aA.aI,if_neg A0]⟩
 rcases z2 with ⟨_,h⟩|⟨tk,rfl,_,_⟩
 . simp at h;exact absurd h.2 hSb
 simp only[↓zP,zJ,seval,zD];rw[show ∀(h:aA) (n:Nat) (y:List (List AV)),dI h 5 (.bC n 5 y)=some y from fun _ _ _=>rfl];simp only[z1,bQ,↓zP,seval,zD,Ap,Ai];refine⟨by have :=z3.next;simpa using this,?_⟩;refine bY ?_;have Yy:(Sa++Sb).length<=(kI Sa Sb U W).length:=by simp only[kI,Ap,Ai];omega
 have hdg:∀i (h:i<(Sa++Sb).length),(kI Sa Sb U W)[i]'(Bj h Yy)=((Sa++Sb)[i]).1:=fun i h=>by simp only[kI];rw[List.getElem_append_left Zay,Dv]
 have Xl:∀i (h:i<(Sa++Sb).length),((Sa.map (cL La)++Sb.map (cL Lb)).getD i []).length=5/\((Sa.map (cL La)++Sb.map (cL Lb)).getD i []).take 3=cE ((Sa++Sb)[i]).1:=fun i h=>by
  by_cases h1:i<Sa.length
  . have :(Sa.map (cL La)++Sb.map (cL Lb)).getD i []=cL La Sa[i]:=by simp[List.getD,Dl,h1]
    rw[this,List.getElem_append_left h1];exact⟨rfl,rfl⟩
  have h2:i -Sa.length<Sb.length:=by rw[Ap] at h;omega
  have :(Sa.map (cL La)++Sb.map (cL Lb)).getD i []=cL Lb Sb[i -Sa.length]:=by simp[List.getD,Dl,h1,h2]
  rw[this,List.getElem_append_right A0];exact⟨rfl,rfl⟩
 refine cC [] (fun i vs H'=>I i H'/\∀k,k<i->∀h:k<(kI Sa Sb U W).length,sep (kI Sa Sb U W)[k]=false) (Sa.length+Sb.length) A0 A1 ?_ ?_ ?_ ?_ ?_
 . exact zq
 . exact zq
 . exact⟨AF 0 _ _ hov h0,fun k hk=>absurd hk (Ar _)⟩
 . rintro i f H1 hi hk e1 ⟨hI,hns⟩;have pB:i<(Sa++Sb).length:=by rw[Ap];exact hi
   obtain⟨p5,p3⟩:=Xl i pB;have hs:=fA i (Bj pB Yy)
   have aZi:∀k,k<i+1->sep ((kI Sa Sb U W)[i]'(Bj pB Yy))=false->∀h:k<(kI Sa Sb U W).length,sep (kI Sa Sb U W)[k]=false:=fun k hk h1 h=>by
    by_cases e:k=i
    . subst e;exact h1
    exact hns k A0 h
   have NN:sep ((kI Sa Sb U W)[i]'(Bj pB Yy))=true->(kI Sa Sb U W).any sep=true:=fun h=>Cv.2 ⟨_,Ah _,h⟩;rw[hdg i pB] at hs aZi NN;have HH:i<(Sa.map (cL La)++Sb.map (cL Lb)).length:=(by simp only[Ap,Ai];exact hi);generalize Mf:(Sa.map (cL La)++Sb.map (cL Lb)).getD i []=cs at *;generalize ((Sa++Sb)[i]).1=d at *;refine aP ?_;refine bX ?_;have bHu:i<Sa.length+Sb.length:=hi;simp only[↓zP,zJ,seval,e1,hk 17 rfl,aG,Ap,Ai,bHu,Mf,oL p5];refine bY ?_;have bIp:Over H1 ((H1.alloc (.cells [.int .i64 0,.int .i64 0,.int .i64 0,.int .i64 0,.bB] false)).set H1.next (.cells cs false)):=((Over.refl H1).alloc _).set (Ag _) _;have hgc:((H1.alloc (.cells [.int .i64 0,.int .i64 0,.int .i64 0,.int .i64 0,.bB] false)).set H1.next (.cells cs false)).get H1.next=some (.cells cs false):=(by rw[aA.aC,if_pos rfl]);obtain⟨H2,hy,vj,_,_⟩:=hs _ (AF i _ _ bIp hI);generalize (H1.alloc (.cells [.int .i64 0,.int .i64 0,.int .i64 0,.int .i64 0,.bB] false)).set H1.next (.cells cs false)=HA at *;simp only[↓zP,zJ,seval,hgc,p5,p3,hk 0 rfl];refine FE A1 (by rfl) (by rfl) hy ?_
   cases Oz:sep d with
   |true=>rw[Oz] at vj;refine Ty ?_;refine⟨rfl,_,by simp only[zR,seval];rfl,?_⟩;exact⟨rfl,by rw[if_pos (NN Oz)];simpa using vj⟩
   |false=>rw[Oz] at vj;refine Ty ?_;exact⟨by simpa using vj,fun k hk h=>aZi k hk Oz h⟩
 rintro f H1 hk ⟨hI,hns⟩;refine Tx ?_;apply hK;clear hK K;obtain⟨w1,w2⟩:=aCb _ _ hI;refine bX ?_;refine Dz ?_;simp only[↓zP,zJ,seval,zD,hk 1 rfl,w1];refine dM (ea _) ?_;simp only[↓zP,zJ,seval,zD,hk 2 rfl,w2];refine dM (eb _) ?_;simp only[↓zP,zJ,seval,zD];refine gG ?_;simp only[↓zP,zG,seval,aR];refine bY ?_;have Xg:(Sa++Sb).length=Sa.length+Sb.length:=Ap;have hD0:((Sa++Sb).map (·.1)).length=Sa.length+Sb.length:=by rw[Ai,Xg]
 have aYy:kI Sa Sb U W=pre ((Sa++Sb).map (·.1)) U W U.length 0:=aKo ..
 have bIm:∀x∈(Sa++Sb).map (·.1),sep x=false:=fun x hx=>by
  obtain⟨k,rF,rfl⟩:=Dt hx;have Xn:k<Sa.length+Sb.length:=by rw[<-hD0];exact rF
  have :=hns k Xn A0;rw[hdg k (by rw[Xg];exact Xn)] at this;rw[Dv];exact this
 generalize hDg:(Sa++Sb).map (·.1)=D at *;refine cC [] (fun i vs H'=>I (pre D U W i 0).length H'/\∀x∈pre D U W i 0,sep x=false) U.length A0 A1 ?_ ?_ ?_ ?_ ?_
 . exact zq
 . exact zq
 . have e:pre D U W 0 0=D:=by simp[US,LI]
   rw[e,hD0];exact⟨hI,bIm⟩
 . rintro i f2 H2 hi eW e2 ⟨vj,aIr⟩;have hgu:=cH hi;have hnu:=nU _ (Ah hi);refine aP ?_;simp only[↓zP,zJ,seval,e2,eW 33 rfl,eW 7 rfl,aG,aR,hi,hgu,oL (aM U[i])];refine cC [] (fun j vs H'=>I (pre D U W i j).length H'/\(∀x∈pre D U W i j,sep x=false)/\H2.next<H'.next/\H'.get H2.next=some (.cells (cE U[i]) false)) W.length A0 A1 ?_ ?_ ?_ ?_ ?_
   . exact zq
   . exact zq
   . exact⟨AF _ _ _ (((Over.refl H2).alloc _).set (Ag _) _) vj,aIr,by simp,by rw[aA.aC,if_pos rfl]⟩
   . rintro j f3 H3 hj kR e3 ⟨hI3,aBp,DX,g9⟩;have hgw:=cH hj;have hnw:=nW _ (Ah hj);have SO:=aDp (D:=D) hi hj;obtain⟨R,hR⟩:=aKq (D:=D) (W:=W) hi (show j+1<=W.length from hj);rw[<-aYy,SO,aAi] at hR;rw[aAi] at SO;have hH2:=hI0 _ _ vj;generalize pre D U W i (j+1)=Pn at *;generalize pre D U W i j=Pj at *;generalize U[i]=u at *;generalize W[j]=w at *;have hcn:bL (2*(MU*MU)) (aD.aU u w):=iD hnu hnw;have hMM:MU*MU<=2^20*2^20:=Ba hMU hMU;have hIu:∀i,CU (u.at i):=fun i=>by have :=bL.c hnu i;unfold CU;omega
     have hIw:∀i,CU (w.at i):=fun i=>by have :=bL.c hnw i;unfold CU;omega
     have hcr:∀i,i<3->YY (fun i=>some (u.at i)) (fun i=>some (w.at i)) i=some ((aD.aU u w).at i):=fun i hi=>Ya hnu hnw (by
      have :(3*(2^20*2^20):Nat)<2^240:=by decide
      omega) hi
     have hcc:∀i,((aD.aU u w).at i).natAbs<=2*(MU*MU):=fun i=>bL.c hcn i;have w16:2*(2^20*2^20)<lP.W^16:=by decide
     have hcI:∀i,i<3->dS (cO (YY (fun i=>some (u.at i)) (fun i=>some (w.at i)) i)) (YY (fun i=>some (u.at i)) (fun i=>some (w.at i)) i):=fun i hi=>by rw[hcr i hi];exact .enc (by have :=hcc i;omega)
     have bIi:(⟨(eT (YY (fun i=>some (u.at i)) (fun i=>some (w.at i)) 0)).1,(eT (YY (fun i=>some (u.at i)) (fun i=>some (w.at i)) 1)).1,(eT (YY (fun i=>some (u.at i)) (fun i=>some (w.at i)) 2)).1⟩:aD.V)=aD.aU u w:=by
      have sm:∀z:Int,z.natAbs<=2*(MU*MU)->(eT (some z)).1=z:=fun z hz=>by simp only[eT];rw[if_pos A0]
      rw[hcr 0 A1,hcr 1 A1,hcr 2 A1,sm _ (hcc 0),sm _ (hcc 1),sm _ (hcc 2)];rfl
     have n9:¬(H2.next=H3.next):=A0;refine aP ?_;simp only[↓zP,zJ,seval,e3,kR 39 rfl,kR 9 rfl,aG,aR,hj,hgw,oL (aM w),oL (aM u),g9,n9];refine bO (xi hIu hIw _) ?_;refine bO (qg hcI _) ?_;rw[bIi];generalize hc:aD.aU u w=c at *;by_cases om:c=V0
     . rw[if_pos om,Cr] at SO;have hd:decide (c=V0)=true:=Aj om;simp only[↓zP,zJ,seval,oL (aM c),IE,hd];rw[SO];refine⟨AF _ _ _ (((((Over.refl H3).alloc _).set (Ag _) _).alloc _).set A2 _) hI3,aBp,by omega,?_⟩;rw[if_neg A0,if_neg A0,if_neg A0,if_neg A0];exact g9
     have hd:decide (c=V0)=false:=Ad om;simp only[↓zP,zJ,seval,oL (aM c),IE,hd];generalize hX:(((H3.alloc _).set _ _).alloc _).set _ _=HX;have aUd:Over H3 HX:=(by subst hX;exact((((Over.refl H3).alloc _).set (Ag _) _).alloc _).set A0 _);clear hX;have g9X:=(aUd.same H2.next DX).trans g9;have hIX:=AF _ _ _ aUd hI3;have hnX:=aUd.le;rw[if_neg om] at SO hR;have dT:Pj.length<(kI Sa Sb U W).length:=(by rw[hR];simp);have aMo:(kI Sa Sb U W)[Pj.length]'dT=c:=(by simp[hR]);obtain⟨H6,hy,hI6,hn6,hs6⟩:=fA _ dT HX hIX;rw[aMo] at hy hI6
     have hf0:f3 0=.yield id:=by rw[kR 0 rfl];simp only[zB,seval];rw[eW 0 rfl];simp only[zB,seval];rw[hk 0 rfl];simp only[zB,seval,fO,Dk]
     refine FE A1 (by simp only[zB,seval];exact hf0) (by simp only[sm,zB,seval]) hy ?_
     cases Oz:sep c with
     |true=>rw[Oz] at hI6;have NN:(kI Sa Sb U W).any sep=true:=Cv.2 ⟨c,by rw[<-aMo];exact Ah dT,Oz⟩;refine Ty ?_;refine⟨rfl,_,by simp only[zR,seval];rfl,?_⟩;exact⟨rfl,by rw[if_pos NN];simpa using hI6⟩
     |false=>
      rw[Oz] at hI6;refine Ty ?_;rw[SO,Ap];refine⟨by simpa using hI6,fun x hx=>?_,by omega,(hs6 _ A0 A0).trans g9X⟩
      rcases Aq.1 hx with hx|hx
      . exact aBp x hx
      rw[Cc] at hx;subst hx;exact Oz
   rintro f3 H3 kR ⟨hI3,aBp,DX,g9⟩;rw[aKp hi] at hI3 aBp;exact⟨hI3,aBp⟩
 rintro f2 H2 eW ⟨vj,aIr⟩;rw[<-aYy] at vj aIr
 have NN:(kI Sa Sb U W).any sep=false:=by rw[Gu];intro x hx;simp[aIr x hx]
 refine⟨rfl,_,by simp only[zR,seval];rfl,?_⟩;exact⟨rfl,by rw[NN];exact vj⟩
def lZ(a b:List aD.V)(n:aD.V):Bool:=decide (sF n (aD.dot n (a.getD 0 V0)) a<=sG n (aD.dot n (b.getD 0 V0)) b)||decide (sF n (aD.dot n (b.getD 0 V0)) b<=sG n (aD.dot n (a.getD 0 V0)) a)
theorem JK{n:aD.V}{X:Nat}:∀{l:List aD.V} {m:Int},m.natAbs<=X->(∀v∈l,(aD.dot n v).natAbs<=X)->(sG n m l).natAbs<=X
 |[],_,h,_=>h
 |v::l,m,h,hl=>by have h1:=hl v Bc;have :=JK (n:=n) (l:=l) (m:=if aD.dot n v<m then aD.dot n v else m) ZaC (fun w hw=>hl w (Aw _ hw));exact this
theorem IW{n:aD.V}{X:Nat}:∀{l:List aD.V} {m:Int},m.natAbs<=X->(∀v∈l,(aD.dot n v).natAbs<=X)->(sF n m l).natAbs<=X
 |[],_,h,_=>h
 |v::l,m,h,hl=>by have h1:=hl v Bc;have :=IW (n:=n) (l:=l) (m:=if aD.dot n v>m then aD.dot n v else m) ZaC (fun w hw=>hl w (Aw _ hw));exact this
theorem VF{ta tb:Nat}(ZK:Nat.blt ta 2=true)(Xp:Nat.blt tb 2=true){a b:List aD.V}{M B:Nat}(ha:∀v∈a,bL M v)(hb:∀v∈b,bL M v)(hM:M<=2^18)(wa:a.length<2^30)(o7:b.length<2^30)(ha0:a≠[])(Qg:b≠[])
 {Sa Sb:List (aD.V×Int)} {La Lb:aD.V×Int->List Nat} {U W:List aD.V} {MU:Nat} (hMU:MU<=2^20)
 (fa:∀H,Sg 182 [.agg [.bC ta 3 (bK a)]] H (.ret (.bC (H.next+2) 5 (Sa.map (cL La)))) (H.alloc .tok))
 (fb:∀H,Sg 182 [.agg [.bC tb 3 (bK b)]] H (.ret (.bC (H.next+2) 5 (Sb.map (cL Lb)))) (H.alloc .tok))
 (ea:∀H,Sg 183 [.agg [.bC ta 3 (bK a)]] H (.ret (.bC 0 3 (bK U))) H)
 (eb:∀H,Sg 183 [.agg [.bC tb 3 (bK b)]] H (.ret (.bC 0 3 (bK W))) H)
 (nU:∀v∈U,bL MU v) (nW:∀v∈W,bL MU v) (lSa:Sa.length<=64) (lSb:Sb.length<=64) (hSb:Sb≠[]) (lU:U.length<=2^20) (lW:W.length<=2^20)
 (RF:∀n∈kI Sa Sb U W,bL B n) (hB:B<=2^62) (H:aA):
 Sg 31 [.agg [.bC ta 3 (bK a)],.agg [.bC tb 3 (bK b)]] H (.ret (.bool ((kI Sa Sb U W).any (lZ a b)))) H:=by
 suffices h:∃out H',out=.ret (.bool ((kI Sa Sb U W).any (lZ a b)))/\Sg 31 [.agg [.bC ta 3 (bK a)],.agg [.bC tb 3 (bK b)]] ⟨0,.nil⟩ out H' by obtain⟨_,H',rfl,hS⟩:=h;exact Sound.frame eC (by simp only[sf,cF ZK,cF Xp]) hS (tk:=none) (fun k hk=>by cases hk) (n:=0) H (xT rfl)
 obtain⟨a0,ar,hae⟩:=Ep ha0;obtain⟨b0,br,hbe⟩:=Ep Qg;refine yC fit bJt (Al rfl) ?_;unfold W31;dsimp only;refine bX ?_;refine Ty ?_;refine bY ?_;refine aT fun K hK=>?_;refine bX ?_;refine Ty ?_;refine bO (Qv (ta:=ta) (tb:=tb) a b _) ?_;simp only[↓zP,seval,zI];refine bY ?_
 refine aOg (by
  repeat (first|exact(xV (Al rfl)).1|refine nD.iZ ?_ A1 _)) (fun f HX Xh hf hHX=>?_)
 have f2:f 2=.ref 0 0:=by subst hf;simp only[zB,seval]
 have f3:f 3=.ref 1 0:=by subst hf;simp only[zB,seval]
 have f4:f 4=.ref 2 0:=by subst hf;simp only[zB,seval]
 have f12:f 12=.func (.func 181) [] [.ref 3 0,.ref 4 0]:=by subst hf;simp only[zB,seval]
 have xn:HX.next=5:=by subst hHX;simp only[zI,seval]
 have x0:HX.get 0=some (.cells [.bC ta 3 (bK a)] false):=by subst hHX;simp only[zI,seval]
 have x1:HX.get 1=some (.cells [.bC tb 3 (bK b)] false):=by subst hHX;simp only[zI,seval]
 have x2:HX.get 2=some (.cells [.bool false] false):=by subst hHX;simp only[zI,seval]
 have x3:HX.get 3=some (.cells [.bC ta 3 (bK a)] false):=by subst hHX;simp only[zI,seval]
 have x4:HX.get 4=some (.cells [.bC tb 3 (bK b)] false):=by subst hHX;simp only[zI,seval]
 clear hf hHX;refine aP ?_;refine FD (by rw[jK];exact f12) ?_;simp only[xn,seval];generalize Ov:KT.mk [13] _ _=key
 let I:Nat->aA->Prop:=fun _ H'=>7<=H'.next/\H'.get 0=some (.cells [.bC ta 3 (bK a)] false)/\H'.get 1=some (.cells [.bC tb 3 (bK b)] false)/\H'.get 2=some (.cells [.bool false] false)/\H'.get 3=some (.cells [.bC ta 3 (bK a)] false)/\H'.get 4=some (.cells [.bC tb 3 (bK b)] false)/\H'.get 5=some .MV/\H'.get 6=some (.loop key (LF 36 f) .ready)
 let Stop:aA->Prop:=fun H'=>H'.get 2=some (.cells [.bool true] false)/\7<=H'.next/\H'.get 5=some .MV/\∃k s,H'.get 6=some (.loop k s (.done .ret))
 have AF:∀i H1 H2,Over H1 H2->I i H1->I i H2:=fun i H1 H2 ho ⟨w1,w2,w3,w4,w5,w6,w7,w8⟩=>⟨By w1 ho.le,(ho.same _ A0).trans w2,(ho.same _ A0).trans w3,(ho.same _ A0).trans w4,(ho.same _ A0).trans w5,(ho.same _ A0).trans w6,(ho.same _ A0).trans w7,(ho.same _ A0).trans w8⟩
 have aUl:∀H1 H2,Over H1 H2->Stop H1->Stop H2:=fun H1 H2 ho ⟨w1,w2,w3,k,s,w4⟩=>⟨(ho.same _ A0).trans w1,By w2 ho.le,(ho.same _ A0).trans w3,k,s,(ho.same _ A0).trans w4⟩
 have yn:((HX.alloc .MV).alloc (.loop key (LF 36 f) .ready)).next=7:=by simp[xn]
 have h0:I 0 ((HX.alloc .MV).alloc (.loop key (LF 36 f) .ready)):=by refine⟨by rw[yn];decide,?_,?_,?_,?_,?_,?_,?_⟩<;>simp[aA.aI, *]
 have fA:∀k (hk:k<(kI Sa Sb U W).length) H1,I k H1->∃H',rS Tryz.prog gv 6 [.agg (cE (kI Sa Sb U W)[k])] H1 (.ret (.bool (!lZ a b (kI Sa Sb U W)[k]))) H'/\(if lZ a b (kI Sa Sb U W)[k] then Stop H' else I (k+1) H')/\H1.next<=H'.next/\∀j,((HX.alloc .MV).alloc (.loop key (LF 36 f) .ready)).next<=j->j<H1.next->H'.get j=H1.get j:=by
  rintro k hk H1 ⟨w1,w2,w3,w4,w5,w6,w7,w8⟩;have hn:=RF _ (Ah hk);rw[yn];generalize (kI Sa Sb U W)[k]=n at *
  suffices h:∃out H',(out=.ret (.bool (!lZ a b n))/\(if lZ a b n then Stop H' else I (k+1) H')/\H1.next<=H'.next/\∀j,7<=j->j<H1.next->H'.get j=H1.get j)/\rS Tryz.prog gv 6 [.agg (cE n)] H1 out H' by obtain⟨_,H',⟨rfl,h1,h2,h3⟩,hS⟩:=h;exact⟨H',hS,h1,h2,h3⟩
  refine YK fit Xh w8 (by rw[<-Ov];rfl) (by rw[<-Ov];rfl) (by rw[<-Ov];rfl) ?_
  have aIl:FC Tryz.prog gv 36 key.MQ (sU 36 f (key.ps.zip [.agg (cE n)])) [] H1 (fun e f1 pI H1'=>e=.normal/\f1=iZ (iZ f 13 (.agg (cE n))) 5 (.ref H1.next 0)/\pI=[]/\H1'=(H1.alloc (.cells [.int .i64 0,.int .i64 0,.int .i64 0] false)).set H1.next (.cells (cE n) false)):=by subst Ov;dsimp only[List.zip,List.zipWith,sU,fM];simp only[↓zP,zJ,seval,oL (aM n)]
  refine jI (fun e f1 pI H1' h=>?_) aIl;obtain⟨rfl,rfl,rfl,rfl⟩:=h;have ho1:Over H1 ((H1.alloc (.cells [.int .i64 0,.int .i64 0,.int .i64 0] false)).set H1.next (.cells (cE n) false)):=((Over.refl H1).alloc _).set (Ag _) _;have ga:((H1.alloc (.cells [.int .i64 0,.int .i64 0,.int .i64 0] false)).set H1.next (.cells (cE n) false)).get H1.next=some (.cells (cE n) false):=by rw[aA.aC,if_pos rfl]
  have gan:((H1.alloc (.cells [.int .i64 0,.int .i64 0,.int .i64 0] false)).set H1.next (.cells (cE n) false)).next=H1.next+1:=by simp
  refine⟨rfl,key,LF 36 f,(ho1.same 6 A0).trans w8,?_⟩;generalize hbz:aA.set _ 6 _=HB;have z0:HB.get 0=some (.cells [.bC ta 3 (bK a)] false):=by rw[<-hbz,aA.aC,if_neg A1];exact(ho1.same 0 A0).trans w2
  have z1:HB.get 1=some (.cells [.bC tb 3 (bK b)] false):=by rw[<-hbz,aA.aC,if_neg A1];exact(ho1.same 1 A0).trans w3
  have zr:HB.get H1.next=some (.cells (cE n) false):=by rw[<-hbz,aA.aC,if_neg A0];exact ga
  have zn:HB.next=H1.next+1:=by rw[<-hbz,aA.bA];exact gan
  have z6:HB.get 6=some (.loop key (LF 36 f) .busy):=by rw[<-hbz,aA.aC,if_pos rfl]
  have zo:∀j,j≠6->j<H1.next->HB.get j=H1.get j:=fun j h1 h2=>by rw[<-hbz,aA.aC,if_neg h1];exact ho1.same j h2
  clear hbz aIl ho1 ga gan;subst Ov;dsimp only;refine aP ?_;simp only[↓zP,zJ,seval,f2,z0,zr,oL (aM n)];have sa:=fun H=>jm (tag:=ta) ZK ha wa hM hn hB hae H;have sb:=fun H=>jm (tag:=tb) Xp hb o7 hM hn hB hbe H;have dA:∀z,(cI z).length=18:=fun z=>by simp[cI,bW,bP]
  have nY:(AV.bool false::AV.bool false::wC zs).length=18:=by simp[bW];rfl
  have hBM:B*M<=2^62*2^18:=Ba hB hM
  have w16:3*(B*M)<lP.W^16:=by have :3*(2^62*2^18)<lP.W^16:=A1;omega
  have da:∀v∈a,(aD.dot n v).natAbs<=3*(B*M):=fun v hv=>mH hn (ha v hv);have db:∀v∈b,(aD.dot n v).natAbs<=3*(B*M):=fun v hv=>mH hn (hb v hv);have na0:=da a0 (by rw[hae];simp);have nb0:=db b0 (by rw[hbe];simp)
  have ZI:lZ a b n=(decide (sF n (aD.dot n a0) a<=sG n (aD.dot n b0) b)||decide (sF n (aD.dot n b0) b<=sG n (aD.dot n a0) a)):=by simp only[lZ,hae,hbe,Dk]
  rw[ZI];have ila:dS (cI (sG n (aD.dot n a0) a)) (some (sG n (aD.dot n a0) a)):=.enc (by have :=JK na0 da;omega);have qU:dS (cI (sF n (aD.dot n a0) a)) (some (sF n (aD.dot n a0) a)):=.enc (by have :=IW na0 da;omega);have ilb:dS (cI (sG n (aD.dot n b0) b)) (some (sG n (aD.dot n b0) b)):=.enc (by have :=JK nb0 db;omega);have uC:dS (cI (sF n (aD.dot n b0) b)) (some (sF n (aD.dot n b0) b)):=.enc (by have :=IW nb0 db;omega);clear ZI AF aUl h0;generalize sG n (aD.dot n a0) a=p1 at *;generalize sF n (aD.dot n a0) a=p2 at *;generalize sG n (aD.dot n b0) b=q1 at *;generalize sF n (aD.dot n b0) b=q2 at *;have n0:¬(H1.next=0):=by omega
  have n1:¬(H1.next=1):=by omega
  have n2:¬(2=H1.next):=by omega
  have z2:HB.get 2=some (.cells [.bool false] false):=(zo 2 A1 A0).trans w4;refine bO (sa _) ?_;simp only[↓zP,zJ,seval,Bh,Nat.left_eq_add,Io,dA,nY,oL nY,zn,z1,zr,f3,oL (aM n),n0];refine bO (sb _) ?_
  have yA:∀x y:Int,decide (kW (some x) (some y)<=0)=decide (x<=y):=fun x y=>by rw[Bk];simp only[kW];split<;>(try split)<;>omega
  by_cases c1:p2<=q1
  . have d1:decide (kW (some p2) (some q1)<=0)=true:=by rw[yA];exact Aj c1
    simp only[↓zP,zJ,seval,Bh,Io,dA,nY,oL (dA p2),oL (dA q1),oL nY,zn];refine bO (FB qU ilb _) ?_;simp only[↓zP,zJ,seval,Bh,d1,f4,n0,n1,zn,z2];have ttt:(decide (p2<=q1)||decide (q2<=p1))=true:=(by simp[c1]);exact Zad
  have d1:decide (kW (some p2) (some q1)<=0)=false:=by rw[yA];exact Ad c1
  simp only[↓zP,zJ,seval,Bh,Io,dA,nY,oL (dA p2),oL (dA q1),oL nY,zn];refine bO (FB qU ilb _) ?_;simp only[↓zP,zJ,seval,Bh,Io,d1,dA,zn,oL (dA p1),oL (dA q2)];refine bO (FB uC ila _) ?_;by_cases c2:q2<=p1
  . have d2:decide (kW (some q2) (some p1)<=0)=true:=by rw[yA];exact Aj c2
    simp only[↓zP,zJ,seval,Bh,d2,f4,n0,n1,zn,z2];have ttt:(decide (p2<=q1)||decide (q2<=p1))=true:=(by simp[c2]);exact Zad
  have d2:decide (kW (some q2) (some p1)<=0)=false:=by rw[yA];exact Ad c2
  simp only[↓zP,zG,seval,d2];generalize hZ:aA.set _ (H1.next+4) _=HZ;have hz:Over HB HZ:=by subst hZ;exact(((((((((Over.refl HB).alloc _).alloc _).set A0 _).set A0 _).alloc _).alloc _).set A0 _).set A0 _)
  clear hZ;have hzn:=hz.le;have ttt:(decide (p2<=q1)||decide (q2<=p1))=false:=by simp[c1,c2]
  refine⟨rfl,_,_,(hz.same 6 A0).trans z6,by rw[ttt];rfl,?_,by simp only[aA.bA];omega,fun j h1 h2=>?_⟩
  . rw[ttt,if_neg A1]
    have hk:∀(ob:eY) (j:Nat),j<6->(HZ.set 6 ob).get j=H1.get j:=fun ob j hj=>by rw[aA.aC,if_neg A0];exact(hz.same j A0).trans (zo j A0 A0)
    exact⟨by simp only[aA.bA];omega,(hk _ 0 A1).trans w2,(hk _ 1 A1).trans w3,(hk _ 2 A1).trans w4,(hk _ 3 A1).trans w5,(hk _ 4 A1).trans w6,(hk _ 5 A1).trans w7,by rw[aA.aC,if_pos rfl]⟩
  by_cases j6:j=6
  . omega
  rw[aA.aC,if_neg j6];exact(hz.same j A0).trans (zo j j6 h2)
 obtain⟨He,GC,hS⟩:=NM (ta:=ta) (tb:=tb) hMU fa fb ea eb nU nW lSa lSb hSb lU lW (id:=6) (r1:=3) (r2:=4) (o1:=false) (o2:=false) I Stop (lZ a b) AF aUl fA (fun k H1 h=>by rw[yn];exact h.1) (by rw[yn];decide) (by rw[yn];decide) h0.2.2.2.2.1 h0.2.2.2.2.2.1 (fun k H' h=>⟨h.2.2.2.2.1,h.2.2.2.2.2.1⟩) h0
 cases NN:(kI Sa Sb U W).any (lZ a b) with
 |true=>
  rw[NN,if_pos rfl] at GC;obtain⟨w1,w2,w3,k,s,w4⟩:=GC;refine⟨_,He,_,_,_,hS,w4,fun Hf hf=>?_⟩;obtain⟨e1,e2⟩:=hf;have b2:Hf.get 2=some (.cells [.bool true] false):=by rw[e2,if_neg A1];exact w1
  have b5:Hf.get 5=some .MV:=by rw[e2,if_neg A1];exact w3
  refine⟨b5,[.bool true],?_,rfl⟩;simp only[↓zP,zR,seval,f4,b2]
 |false=>
  rw[NN,if_neg A1] at GC;obtain⟨w1,w2,w3,w4,w5,w6,w7,w8⟩:=GC;refine⟨_,He,_,_,_,hS,w8,fun Hf hf=>?_⟩;obtain⟨e1,e2⟩:=hf;have b2:Hf.get 2=some (.cells [.bool false] false):=by rw[e2,if_neg A1];exact w4
  have b5:Hf.get 5=some .MV:=by rw[e2,if_neg A1];exact w7
  show K f [.mark 5] Hf;apply hK;simp only[↓zP,zJ,seval,f4,b2];refine⟨by rw[aA.aC,if_neg A1];exact b5,[.bool false],?_,by rw[NN];rfl⟩;simp only[↓zP,zR,seval,f4]
end Go.Proofs.YtogfcjbgeebfkaaGreatDoor
namespace Go.Proofs.YtogfcjbgeebfkaaGreatDoor
open Go Go.Av Go.aD
theorem Pq(l:List aD.V):∃C,Ord l C:=by obtain⟨s,h1,h2⟩:=vN (fun a b:aD.V=>¬gV b a) (fun {a b c} h h'=>by unfold gV at *;omega) (fun a b=>by unfold gV;omega) l;exact⟨dd s s.length,Yf h2 _ (Ag _),fun v=>by rw[Oa s v _ (Ag _),Ay];exact h1.mem_iff⟩
noncomputable def RW (l:List aD.V):List aD.V:=Classical.choose (Pq l)
theorem xU(l:List aD.V):Ord l (RW l):=Iw (Pq l)
noncomputable def gB (C:List aD.V):List (aD.V×Int):=Classical.choose (oP.exists (fun i=>C.getD i V0) C.length)
theorem oS(C:List aD.V):oP (fun i=>C.getD i V0) C.length (gB C):=Iw (oP.exists (fun i=>C.getD i V0) C.length)
open Classical in
noncomputable def kY (C:List aD.V) (q:aD.V×Int):List Nat:=if h:∃L,Poly (fun i=>C.getD i V0) C.length q.1 q.2 L then Classical.choose h else []
theorem vK{C:List aD.V}(h:C.Pairwise gV):MM (fun i=>C.getD i V0) C.length:=fun i j uU hj=>by
 have h1:C.getD i V0=C[i]:=by simp[List.getD,Cm uU hj]
 have h2:C.getD j V0=C[j]:=by simp[List.getD,hj]
 simp only[h1,h2];exact Gk.1 h i j (Cm uU hj) hj uU
theorem kZ{C:List aD.V}(h:C.Pairwise gV):qZ C (gB C) (kY C) where
 fl:=oS C
 po q hq:=by have hF:=((oS C).mem q).1 hq;have hx:=Poly.exists (vK h) hF.DE;unfold kY;rw[dif_pos hx];exact Iw hx
noncomputable def fJ (l:List aD.V):Int:=OS l (RW l) (gB (RW l)) (kY (RW l))
theorem Pr{l:List aD.V}(h:l.Pairwise gV):RW l=l:=Ord.uniq (xU l) ⟨h,fun v=>Iff.rfl⟩
theorem nG{l:List aD.V}(h:fJ l=0):l.Pairwise gV/\RW l=l/\gB l≠[]/\(gB l).length<=64/\l.length<=64/\l≠[]/\∀v∈l,bL (2^18) v:=by
 unfold fJ OS at h;split at h
 . cases h
 rename_i h1;have h2:gS (RW l) (gB (RW l)) (kY (RW l))=l:=Cj fun hc=>h1 ⟨h,hc⟩;obtain⟨a1,a2,a3⟩:=UA h;have hs:=(xU l).RV
 have BM:l.Pairwise gV:=by rw[<-h2];unfold gS;rw[Ff];refine Gz (R:=fun a b=>a<b) ?_ (List.Pairwise.filter _ Iu);intro a b ha hb wU;exact vK hs a b wU (by simpa using(Fk.1 hb).1)
 have he:=Pr BM;have cG:=PB (kZ hs) a1;rw[h2] at cG;rw[he] at a1;refine⟨BM,he,a1,?_,a3,cG,?_⟩
 . unfold iP at h;rw[he] at h;split at h
   . cases h
   split at h
   . cases h
   split at h
   . cases h
   split at h
   . cases h
   omega
 unfold iP at h;split at h
 . cases h
 split at h
 . cases h
 rename_i hb;intro v hv;have zY:l.all fy=true:=by simpa using hb
 exact PF.1 (Bg.1 zY v hv)
theorem IB:fJ []=120:=by
 have h:RW []=[]:=Pr .nil;unfold fJ OS;rw[h]
 have hS:gB []=[]:=by
  cases hf:gB [] with
  |nil=>rfl
  |cons q r=>have :=((oS []).mem q).1 (by rw[hf];simp);obtain⟨k,hk,_⟩:=this.lt;exact absurd hk (Ar _)
 rw[hS];rfl
def yc(l:List aD.V)(v:aD.V):Prop:=∃q:aD.V×Int,nA (fun i=>l.getD i V0) l.length q.1 q.2/\∃a b,Sd q.1 (fun i=>l.getD i V0) (gC (fun i=>l.getD i V0) l.length q.1 q.2) a b/\a∈gC (fun i=>l.getD i V0) l.length q.1 q.2/\a<b/\v=aD.sub (l.getD b V0) (l.getD a V0)
def ya(a b:List aD.V)(n:aD.V):Prop:=(∃d,nA (fun i=>a.getD i V0) a.length n d)\/(∃d,nA (fun i=>b.getD i V0) b.length n d)\/∃u w,yc a u/\yc b w/\n=aD.aU u w/\n≠V0
open Classical in
noncomputable def kJ (a b:List aD.V):Bool:=decide (∃n,ya a b n/\lZ a b n=true)
theorem lC{a b:List aD.V}:kJ a b=true↔∃n,ya a b n/\lZ a b n=true:=by unfold kJ;exact @Hj _ (Classical.propDecidable _)
theorem j9{l:List aD.V}{S:List (aD.V×Int)}{L:aD.V×Int->List Nat}(hS:qZ l S L)(hlen:l.length<=64):∀q∈S,(L q).length<=64:=fun q hq=>by obtain⟨s,r,m,e,W,h⟩:=(hS.po q hq).ex;rw[h,Ai,Bu];have h1:=W.le;have h2:=Db (fun k=>decide (aD.dot q.1 (l.getD k V0)=q.2)) (List.range l.length);rw[Bu] at h2;have h3:(gC (fun i=>l.getD i V0) l.length q.1 q.2).length<=l.length:=h2;omega
theorem aHx{L:aD.V×Int->List Nat}:∀T:List (aD.V×Int),(∀q∈T,(L q).length<=64)->(HG T L).length<=T.length*64:=fun T=>by
 induction T with
 |nil=>intro _;simp[HG]
 |cons q T ih=>intro h;have h1:=ih fun x hx=>h x (Aw _ hx);have h2:=h q Bc;have h3:=mJ (fun i=>if(L q).getD i 0<(L q).getD ((i+1)%(L q).length) 0 then [((((L q).getD i 0:Nat):Int),(((L q).getD ((i+1)%(L q).length) 0:Nat):Int))] else []) 1 (fun i=>by split<;>simp) (List.range (L q).length);rw[Bu,Dc] at h3;have h4:(Xe (L q) (L q).length).length<=(L q).length:=h3;simp only[HG,Ee,Ap,As,Bi,Eu] at h1 ⊢;omega
theorem yQ{l:List aD.V}{S:List (aD.V×Int)}{L:aD.V×Int->List Nat}(hS:qZ l S L){x:Int×Int}:
 x∈HG S L↔∃q∈S,∃a b:Nat,aD.Next (L q) a b/\a<b/\x=pN (a,b):=by
 simp only[HG,Ek];constructor
 . rintro⟨q,hq,hx⟩;simp only[Xe,Ek,Az] at hx;obtain⟨i,hi,hx⟩:=hx;split at hx
   . rename_i h;rw[Cc] at hx;have Vz:(i+1)%(L q).length<(L q).length:=Bz _ A0;refine⟨q,hq,(L q).getD i 0,(L q).getD ((i+1)%(L q).length) 0,⟨i,hi,?_,?_⟩,h,hx⟩
     . simp[List.getD,hi]
     simp[List.getD,Vz]
   cases hx
 rintro⟨q,hq,a,b,⟨i,hi,h1,h2⟩,wU,rfl⟩;refine⟨q,hq,?_⟩;simp only[Xe,Ek,Az];refine⟨i,hi,?_⟩;have e1:(L q).getD i 0=a:=by simp[List.getD,h1]
 have e2:(L q).getD ((i+1)%(L q).length) 0=b:=by simp[List.getD,h2]
 rw[e1,e2,if_pos wU];simp[pN]
theorem Og{l:List aD.V}(hl:l.Pairwise gV){S:List (aD.V×Int)}{L:aD.V×Int->List Nat}(hS:qZ l S L)(cG:S≠[]):HG S L≠[]:=by
 obtain⟨q,r,rfl⟩:=Ep cG;have hq:=Bc (a:=q) (l:=r);have hF:=(hS.fl.mem q).1 hq;have hP:=hS.po q hq
 have hlen:0<(L q).length:=by obtain⟨s,r',m,e,W,h⟩:=hP.ex;rw[h];simpa using W.pos
 have Vz:(0+1)%(L q).length<(L q).length:=Bz _ hlen;have hN:aD.Next (L q) (L q)[0] (L q)[(0+1)%(L q).length]:=⟨0,hlen,Ac hlen,Ac Vz⟩;generalize (L q)[0]=a at *;generalize (L q)[(0+1)%(L q).length]=b at *;have Oz:=hP.jX.1 hN;have wU:b≠a:=Oz.2.2.1;intro he
 rcases En a b with h|h
 . have :pN (a,b)∈HG (q::r) L:=(yQ hS).2 ⟨q,hq,a,b,hN,h,rfl⟩;rw[he] at this;cases this
 obtain⟨n',d',L',F',P',hN'⟩:=hP.back (vK hl) hF hN;have Ox:=(hS.fl.mem (n',d')).2 F';have hL':=P'.uniq (hS.po _ Ox);rw[hL'] at hN';have :pN (b,a)∈HG (q::r) L:=(yQ hS).2 ⟨(n',d'),Ox,b,a,hN',by omega,rfl⟩;rw[he] at this;cases this
theorem SS{tag:Nat}(ht:Nat.blt tag 2=true){l:List aD.V}(h0:fJ l=0):∃U:List aD.V,U.length<=2^20/\(∀v,v∈U↔yc l v)/\(∀v∈U,bL (2^19) v)/\
 (∀H,Sg 182 [.agg [.bC tag 3 (bK l)]] H (.ret (.bC (H.next+2) 5 ((gB l).map (cL (kY l))))) (H.alloc .tok))/\
 ∀H,Sg 183 [.agg [.bC tag 3 (bK l)]] H (.ret (.bC 0 3 (bK U))) H:=by
 obtain⟨hs,_,cG,IQ,hlen,KN,hn⟩:=nG h0;have hF:=kZ hs;obtain⟨E,p1,p2,p3⟩:=xm ht hn (Ag _) hlen hF cG IQ;have hE:∀x∈E,∃q∈gB l,∃a b:Nat,aD.Next (kY l q) a b/\a<b/\x=pN (a,b):=fun x hx=>(yQ hF).1 (p1.mem_iff.1 hx)
 have Tn:E=(E.map fun x=>(x.1.toNat,x.2.toNat)).map pN:=by rw[Eo];refine(Gs E).symm.trans (El fun x hx=>?_);obtain⟨q,hq,a,b,_,_,rfl⟩:=hE x hx;simp[pN]
 have Vv:E.length<=2^20:=by rw[p1.length_eq];have :=aHx (L:=kY l) (gB l) (j9 hF hlen);have :(gB l).length*64<=64*64:=Ba IQ (Ag _);omega
 have hE0:E≠[]:=fun h=>Og hs hF cG (by rw[h] at p1;exact List.Perm.eq_nil p1.symm);generalize hE':(E.map fun x=>(x.1.toNat,x.2.toNat))=E' at *
 have ZE:∀p:Nat×Nat,p∈E'↔∃q∈gB l,aD.Next (kY l q) p.1 p.2/\p.1<p.2:=fun p=>by
  rw[<-hE',Bm];constructor
  . rintro⟨x,hx,rfl⟩;obtain⟨q,hq,a,b,h1,h2,rfl⟩:=hE x hx;exact⟨q,hq,by simpa [pN] using h1,by simpa [pN] using h2⟩
  rintro⟨q,hq,h1,h2⟩;exact⟨pN p,p1.mem_iff.2 ((yQ hF).2 ⟨q,hq,p.1,p.2,h1,h2,rfl⟩),by simp[pN]⟩
 have Xo:∀q∈gB l,∀a b,aD.Next (kY l q) a b->a<l.length/\b<l.length:=fun q hq a b h=>by have h1:=(hF.po q hq).jX.1 h;exact⟨(bU.1 h1.1).1,(bU.1 h1.2.1).1⟩
 refine⟨E'.map (EJ l),?_,?_,?_,fun H=>CS ht hn (Ag _) hlen hF cG H,fun H=>l5 ht hn (Ag _) (E:=E') ?_ ?_ ?_ ?_ H⟩
 . rw[Ai,<-hE',Ai];exact Vv
 . intro v;rw[Bm];constructor
   . rintro⟨p,hp,rfl⟩;obtain⟨q,hq,h1,h2⟩:=(ZE p).1 hp;have h3:=(hF.po q hq).jX.1 h1;exact⟨q,(hF.fl.mem q).1 hq,p.1,p.2,h3.2,h3.1,h2,rfl⟩
   rintro⟨q,hq,a,b,h1,h2,h3,rfl⟩;have Ox:=(hF.fl.mem q).2 hq;exact⟨(a,b),(ZE (a,b)).2 ⟨q,Ox,(hF.po q Ox).jX.2 ⟨h2,h1⟩,h3⟩,rfl⟩
 . intro v hv;obtain⟨p,hp,rfl⟩:=Bm.1 hv;obtain⟨q,hq,h1,h2⟩:=(ZE p).1 hp;obtain⟨b1,b2⟩:=Xo q hq _ _ h1
   have hg:∀k,k<l.length->bL (2^18) (l.getD k V0):=fun k hk=>by have :l.getD k V0=l[k]:=(by simp[List.getD,hk]);rw[this];exact hn _ (Ah hk)
   exact fW (hg _ b2) (hg _ b1)
 . rw[<-hE',Ai];exact Vv
 . intro e;rw[<-hE',Jl] at e;exact hE0 e
 . intro p hp;obtain⟨q,hq,h1,h2⟩:=(ZE p).1 hp;exact Xo q hq _ _ h1
 rw[<-Tn];exact p3
theorem Nd{ta tb:Nat}(ZK:Nat.blt ta 2=true)(Xp:Nat.blt tb 2=true){a b:List aD.V}(ha:fJ a=0)(hb:fJ b=0)(H:aA):
 Sg 31 [.agg [.bC ta 3 (bK a)],.agg [.bC tb 3 (bK b)]] H (.ret (.bool (kJ a b))) H:=by
 obtain⟨U,lU,mU,nU,fa,ea⟩:=SS ZK ha;obtain⟨W,lW,mW,nW,fb,eb⟩:=SS Xp hb;obtain⟨sa,_,ha1,ha2,ha3,ha4,na⟩:=nG ha;obtain⟨sb,_,rP,wV,hb3,hb4,nb⟩:=nG hb;have hFa:=kZ sa;have hFb:=kZ sb
 have vP:∀n,n∈kI (gB a) (gB b) U W↔ya a b n:=fun n=>by
  have m1:∀(l:List aD.V) (hs:l.Pairwise gV),n∈(gB l).map (·.1)↔∃d,nA (fun i=>l.getD i V0) l.length n d:=fun l hs=>by
   rw[Bm];constructor
   . rintro⟨q,hq,rfl⟩;exact⟨q.2,((oS l).mem q).1 hq⟩
   rintro⟨d,hd⟩;exact⟨(n,d),((oS l).mem (n,d)).2 hd,rfl⟩
  have m2:n∈LI U W↔∃u w,yc a u/\yc b w/\n=aD.aU u w/\n≠V0:=by
   simp only[LI,Ek,Jq];constructor
   . rintro⟨u,hu,w,hw,h⟩;split at h
     . cases h
     rename_i hc;obtain rfl:=Aa h;exact⟨u,w,(mU u).1 hu,(mW w).1 hw,rfl,hc⟩
   rintro⟨u,w,hu,hw,rfl,hn⟩;exact⟨u,(mU u).2 hu,w,(mW w).2 hw,by rw[if_neg hn]⟩
  unfold kI ya;rw[Cn,Aq,Aq,m1 a sa,m1 b sb,m2,or_assoc]
 have JB:kJ a b=(kI (gB a) (gB b) U W).any (lZ a b):=by rw[Di,Cv];rw[lC];exact exists_congr fun n=>and_congr_left' (vP n).symm
 rw[JB];refine VF ZK Xp na nb (Ag _) A0 A0 ha4 hb4 (MU:=2^19) A1 fa fb ea eb nU nW ha2 wV rP lU lW (B:=2*(2^19*2^19)) (fun n hn=>?_) A1 H
 rcases(vP n).1 hn with ⟨d,h⟩|⟨d,h⟩|⟨u,w,hu,hw,rfl,_⟩
 . exact oF (q:=(n,d)) na h
 . exact oF (q:=(n,d)) nb h
 exact iD (nU u ((mU u).2 hu)) (nW w ((mW w).2 hw))
end Go.Proofs.YtogfcjbgeebfkaaGreatDoor
namespace Go.Proofs.YtogfcjbgeebfkaaGreatDoor
open Go Go.Av Go.lP Go.aD
theorem Rf{x y:Option Int}{z:Int}(h:vJ x y=some z):∃a b,x=some a/\y=some b/\z=a+b:=by
 cases x with
 |none=>cases h
 |some a=>cases y with
  |none=>cases h
  |some b=>exact⟨a,b,rfl,rfl,(Lx h).1⟩
theorem xK{x y:Option Int}{z:Int}(h:lO x y=some z):∃a b,x=some a/\y=some b/\z=a*b:=by
 cases x with
 |none=>cases h
 |some a=>cases y with
  |none=>cases h
  |some b=>exact⟨a,b,rfl,rfl,(Lx h).1⟩
theorem WZ{n d:Option Int}{q:Rat}(h:Nl n d=some q):∃a b,n=some a/\d=some b/\b≠0/\q=Rat.divInt a b:=by
 cases n with
 |none=>cases h
 |some a=>cases d with
  |none=>cases h
  |some b=>
   simp only[Nl] at h;split at h
   . cases h
   rename_i hb;exact⟨a,b,rfl,rfl,hb,(Aa h).symm⟩
theorem Lv{x y:Option Rat}{z:Rat}(h:Wb x y=some z):∃a b,x=some a/\y=some b/\z=a*b:=by
 cases x with
 |none=>cases h
 |some a=>cases y with
  |none=>cases h
  |some b=>
   simp only[Wb] at h;split at h
   . exact⟨a,b,rfl,rfl,(Aa h).symm⟩
   cases h
theorem LA{x y:Option Rat}{z:Rat}(h:ky x y=some z):∃a b,x=some a/\y=some b/\z=a+b:=by
 cases x with
 |none=>cases h
 |some a=>cases y with
  |none=>cases h
  |some b=>
   refine⟨a,b,rfl,rfl,?_⟩;obtain⟨N,D,h1,h2,hD,rfl⟩:=WZ h;obtain⟨_,_,h3,h4,rfl⟩:=Rf h1;obtain⟨_,_,e1,e2,rfl⟩:=xK h3;obtain⟨_,_,e3,e4,rfl⟩:=xK h4;obtain⟨_,_,e5,e6,rfl⟩:=xK h2;obtain rfl:=Aa e1;obtain rfl:=Aa e2;obtain rfl:=Aa e3;obtain rfl:=Aa e4;obtain rfl:=Aa e5;obtain rfl:=Aa e6;have ha:((a.den:Nat):Int)≠0:=(by have :=a.den_nz;omega);have hb:((b.den:Nat):Int)≠0:=(by have :=b.den_nz;omega);have hg:((Int.gcd a.den b.den:Nat):Int)≠0:=fun h0=>ha (by have :=(Jm (a:=(a.den:Int)) (b:=(b.den:Int))).1 A0;exact this.1);obtain⟨p,hp⟩:=Fa (a.den:Int) (b.den:Int);obtain⟨q,hq⟩:=Ea (a.den:Int) (b.den:Int);generalize ((Int.gcd a.den b.den:Nat):Int)=g at *;have fp:(a.den:Int).fdiv g=p:=(by rw[hp,wQ hg]);have fq:(b.den:Int).fdiv g=q:=(by rw[hq,wQ hg]);have hD':p*(b.den:Int)≠0:=(by rw[<-fp];exact hD);rw[fp,fq]
   have e:a+b=Rat.divInt (a.num*b.den+b.num*a.den) (a.den*b.den):=by
    conv=>lhs;rw[<-Rat.num_divInt_den a,<-Rat.num_divInt_den b]
    rw[Rat.divInt_add_divInt _ _ ha hb]
   rw[e,Rat.divInt_eq_divInt_iff hD' (Int.mul_ne_zero ha hb)];rw[hp,hq]
   grind
theorem aEl{q:aD.V×Int}{x:Nat->Option Rat}{y:Rat}(h:wz q x=some y):∃a b c,x 0=some a/\x 1=some b/\x 2=some c/\y=(q.1.x:Rat)*a+(q.1.y:Rat)*b+(q.1.z:Rat)*c:=by unfold wz at h;simp only[sQ] at h;obtain⟨s2,m2,h2,k2,rfl⟩:=LA h;obtain⟨s1,m1,h1,k1,rfl⟩:=LA h2;obtain⟨s0,m0,h0,k0,rfl⟩:=LA h1;obtain⟨n0,a,e0,a0,rfl⟩:=Lv k0;obtain⟨n1,b,e1,b0,rfl⟩:=Lv k1;obtain⟨n2,c,e2,c0,rfl⟩:=Lv k2;obtain rfl:=Aa h0;obtain rfl:=Aa e0;obtain rfl:=Aa e1;obtain rfl:=Aa e2;refine⟨a,b,c,a0,b0,c0,?_⟩;show((0:Int):Rat)+_+_+_=_;rw[show((0:Int):Rat)=0 from rfl,Rat.zero_add];rfl
theorem aAd{d:Int}{y:Rat}(h:AR (some (d:Rat)) (some y)=1):y<(d:Rat):=by
 simp only[AR,rV] at h;split at h
 . cases h
 split at h
 . rename_i h1 h2;rw[Rat.lt_iff];exact h2
 cases h
theorem InQ.int{S:List (aD.V×Int)}{x:Nat->Option Rat}(h:InQ S x){X:aD.V}{w:Int}(hw:0<w)(h0:∀a,x 0=some a->a=Rat.divInt X.x w)(h1:∀a,x 1=some a->a=Rat.divInt X.y w)(h2:∀a,x 2=some a->a=Rat.divInt X.z w):∀q∈S,dot q.1 X<w*q.2:=by
 intro q hq;obtain⟨y,hy,hc⟩:=h q hq;obtain⟨a,b,c,e0,e1,e2,rfl⟩:=aEl hy;have dT:=aAd hc;rw[h0 a e0,h1 b e1,h2 c e2] at dT
 have key:(q.1.x:Rat)*Rat.divInt X.x w+(q.1.y:Rat)*Rat.divInt X.y w+(q.1.z:Rat)*Rat.divInt X.z w=((dot q.1 X:Int):Rat) / (w:Rat):=by
  simp only[Rat.divInt_eq_div,Rat.div_def,dot,Rat.intCast_add,Rat.intCast_mul]
  grind
 rw[key,Rat.div_lt_iff (Rat.intCast_pos.2 hw),<-Rat.intCast_mul,Rat.intCast_lt_intCast] at dT;rw[Dy];exact dT
theorem Sx{α:Type}{x:α->Option Int}:∀{T:List α} {z:Int},CM x T=some z->∃y:α->Int,(∀t∈T,x t=some (y t))/\z=dX y T:=by
 have gen:∀(T:List α) (s:Option Int) (z:Int),T.foldl (fun s t=>vJ s (x t)) s=some z->∃s0,s=some s0/\(∀t∈T,∃v,x t=some v)/\z=s0+dX (fun t=>(x t).getD 0) T:=by
  intro T
  induction T with
  |nil=>intro s z h;exact⟨z,h,fun t ht=>(by cases ht),by simp[dX]⟩
  |cons t T ih=>
   intro s z h;obtain⟨s1,h1,h2,h3⟩:=ih _ z h;obtain⟨a,b,e1,e2,e3⟩:=Rf h1;refine⟨a,e1,fun u hu=>?_,?_⟩
   . rcases Am.1 hu with rfl|hu
     . exact⟨b,e2⟩
     exact h2 u hu
   simp only[dX,e2,Bl];omega
 intro T z h;obtain⟨s0,h1,h2,h3⟩:=gen T (some 0) z h;obtain rfl:=Aa h1;refine⟨fun t=>(x t).getD 0,fun t ht=>?_,by omega⟩;obtain⟨v,hv⟩:=h2 t ht;show x t=some ((x t).getD 0);rw[hv];rfl
theorem ZS(n:aD.V):∀(l:List aD.V) (m:Int),sG n m l<=m/\∀v∈l,sG n m l<=aD.dot n v
 |[],m=>⟨Ir _,fun v hv=>by cases hv⟩
 |v::l,m=>by
  obtain⟨h1,h2⟩:=ZS n l (if aD.dot n v<m then aD.dot n v else m);show sG n (if aD.dot n v<m then aD.dot n v else m) l<=m/\∀u∈v::l,sG n (if aD.dot n v<m then aD.dot n v else m) l<=aD.dot n u;generalize sG n (if aD.dot n v<m then aD.dot n v else m) l=x at *;refine⟨by split at h1<;>omega,fun u hu=>?_⟩
  rcases Am.1 hu with rfl|hu
  . split at h1<;>omega
  exact h2 u hu
theorem ZB(n:aD.V):∀(l:List aD.V) (m:Int),m<=sF n m l/\∀v∈l,aD.dot n v<=sF n m l
 |[],m=>⟨Ir _,fun v hv=>by cases hv⟩
 |v::l,m=>by
  obtain⟨h1,h2⟩:=ZB n l (if aD.dot n v>m then aD.dot n v else m);show m<=sF n (if aD.dot n v>m then aD.dot n v else m) l/\∀u∈v::l,aD.dot n u<=sF n (if aD.dot n v>m then aD.dot n v else m) l;generalize sF n (if aD.dot n v>m then aD.dot n v else m) l=x at *;refine⟨by split at h1<;>omega,fun u hu=>?_⟩
  rcases Am.1 hu with rfl|hu
  . split at h1<;>omega
  exact h2 u hu
theorem uc{a b:List aD.V}{n:aD.V}(h:lZ a b n=true):MG n a b\/MG n b a:=by
 unfold lZ at h;rw[Dq,Hj,Hj] at h;have ha:=ZB n a (aD.dot n (a.getD 0 V0));have hb:=ZB n b (aD.dot n (b.getD 0 V0));have la:=ZS n a (aD.dot n (a.getD 0 V0));have lb:=ZS n b (aD.dot n (b.getD 0 V0))
 rcases h with h|h
 . exact .inl fun u hu v hv=>by have :=ha.2 u hu;have :=lb.2 v hv;omega
 exact .inr fun u hu v hv=>by have :=hb.2 u hu;have :=la.2 v hv;omega
theorem aOk{a b:List aD.V}{n:aD.V}(h:ya a b n):n≠V0:=by
 rcases h with ⟨d,h⟩|⟨d,h⟩|⟨_,_,_,_,_,h⟩
 . exact h.DE.hn
 . exact h.DE.hn
 exact h
theorem Od{a b:List aD.V}(h:kJ a b=true):∃c,c≠V0/\MG c a b:=by
 obtain⟨n,h1,h2⟩:=lC.1 h;have hn:=aOk h1
 rcases uc h2 with h3|h3
 . exact⟨n,hn,h3⟩
 refine⟨aD.neg n,Pe hn,fun u hu v hv=>?_⟩;rw[mS,mS];have :=h3 v hv u hu;omega
noncomputable def uG (l:List aD.V):List ((aD.V×Int)×List Nat):=(gB l).map fun q=>(q,kY l q)
theorem Tv{l:List aD.V}(h:l.Pairwise gV):TP (gP l) l.length (uG l) where
 fl:=by
  have e:(uG l).map Prod.fst=gB l:=by unfold uG;rw[Eo];exact Gs _
  rw[e];exact oS l
 po:=by intro e he;obtain⟨q,hq,rfl⟩:=Bm.1 he;exact(kZ h).po q hq
theorem Sw{l:List aD.V}(y:Nat×Nat×Nat->Int):dX y (NK (gB l) (kY l))=dX (fun e=>dX y (mX e.2)) (uG l):=by unfold NK uG;rw[zF,CL]
theorem Nv{l:List aD.V}{k:Nat}(h:k<l.length):gP l k∈l:=by
 have :gP l k=l[k]:=by simp[gP,List.getD,h]
 rw[this];exact Ah h
theorem TC{l:List aD.V}(h:fJ l=0){X:aD.V}{w:Int}(hw:0<w)(hX:∀q∈gB l,dot q.1 X<w*q.2){c:aD.V}(hc:c≠V0):∃v∈l,w*dot c v<dot c X:=by
 obtain⟨hs,_,cG,_,_,_,_⟩:=nG h
 obtain⟨k,hk,dT⟩:=(Tv hs).within (vK hs) (fun e=>cG (by simpa [uG] using e)) X w hw (fun e he=>by
  obtain⟨q,hq,rfl⟩:=Bm.1 he
  exact hX q hq) c hc
 exact⟨_,Nv hk,dT⟩
theorem Zb{a b:List aD.V}(hb:fJ b=0)(hd:kJ a b=true){k:Nat}(hk:k<a.length):¬InQ (gB b) (ofV (gP a k)):=by
 intro h;obtain⟨c,hc,Uu⟩:=Od hd
 have one:∀z:Int,((z:Int):Rat)=Rat.divInt z 1:=fun z=>by have :=ij z;simp only[Nl] at this;rw[if_neg A1] at this;exact(Aa this).symm
 have hX:=h.int (X:=gP a k) (w:=1) A1 (fun x e=>by rw[<-Aa e];exact one _) (fun x e=>by rw[<-Aa e];exact one _) (fun x e=>by rw[<-Aa e];exact one _);obtain⟨v,hv,dT⟩:=TC hb A1 hX hc;have :=Uu _ (Nv hk) v hv;omega
theorem qc{l:List aD.V}{i:Nat}{z:Int}(h:sR l i (NK (gB l) (kY l))=some z)(u:aD.V)(hu:∀a b c:aD.V,a.at i+b.at i+c.at i=dot u (aD.add (aD.add a b) c)):z=wo u (gP l) (uG l):=by
 obtain⟨y,h1,rfl⟩:=Sx h;rw[jF (g:=fun t=>D3 (gP l t.1) (gP l t.2.1) (gP l t.2.2)*dot u (aD.add (aD.add (gP l t.1) (gP l t.2.1)) (gP l t.2.2))) fun t ht=>?_]
 . exact Sw _
 obtain⟨a,b,e1,e2,e3⟩:=xK (h1 t ht);rw[e3,<-Aa e1,<-Aa e2,<-hu];rfl
theorem uy{l:List aD.V}{z:Int}(h:NW l (gB l) (kY l)=some z):z=XU (gP l) (uG l):=by
 obtain⟨y,h1,rfl⟩:=Sx h;rw[jF (g:=fun t=>D3 (gP l t.1) (gP l t.2.1) (gP l t.2.2)) fun t ht=>?_]
 . exact Sw _
 exact(Aa (h1 t ht)).symm
theorem aJg(u:aD.V)(l:List aD.V):dot u ⟨wo ⟨1,0,0⟩ (gP l) (uG l),wo ⟨0,1,0⟩ (gP l) (uG l),wo ⟨0,0,1⟩ (gP l) (uG l)⟩=wo u (gP l) (uG l):=by
 simp only[dot,wo];rw[<-nV,<-nV,<-nV,<-tY,<-tY];refine jF fun e _=>?_;rw[<-nV,<-nV,<-nV,<-tY,<-tY];refine jF fun t _=>?_;simp only[aD.add]
 grind
theorem Za{a b:List aD.V}(ha:fJ a=0)(hb:fJ b=0)(hd:kJ a b=true):¬InQ (gB b) (LG a (gB a) (kY a)):=by
 intro h;obtain⟨c,hc,Uu⟩:=Od hd;obtain⟨hs,_,cG,_,_,_,_⟩:=nG ha;have hK:uG a≠[]:=fun e=>cG (by simpa [uG] using e);have bMi:=((Tv hs).aAc (vK hs) hK V0 0 (fun k _=>by simp[dot,V0])).1
 have comp:∀(i:Nat) (u:aD.V),(∀a b c:aD.V,a.at i+b.at i+c.at i=dot u (aD.add (aD.add a b) c))->∀x,LG a (gB a) (kY a) i=some x->x=Rat.divInt (wo u (gP a) (uG a)) (4*XU (gP a) (uG a)):=by intro i u hu x hx;obtain⟨n,d,h1,h2,_,rfl⟩:=WZ hx;obtain⟨p,q,e1,e2,rfl⟩:=xK h2;obtain rfl:=Aa e1;rw[qc h1 u hu,uy e2]
 have hX:=h.int (X:=⟨wo ⟨1,0,0⟩ (gP a) (uG a),wo ⟨0,1,0⟩ (gP a) (uG a),wo ⟨0,0,1⟩ (gP a) (uG a)⟩) (w:=4*XU (gP a) (uG a)) A0
  (comp 0 ⟨1,0,0⟩ fun a b c=>by simp[dot,aD.add,aD.V.at]) (comp 1 ⟨0,1,0⟩ fun a b c=>by simp[dot,aD.add,aD.V.at]) (comp 2 ⟨0,0,1⟩ fun a b c=>by simp[dot,aD.add,aD.V.at])
 obtain⟨v,hv,dT⟩:=TC hb A0 hX hc;rw[aJg] at dT;have :=((Tv hs).aAc (vK hs) hK c (dot c v) (fun k hk=>Uu _ (Nv hk) v hv)).2;have e:4*dot c v*XU (gP a) (uG a)=4*XU (gP a) (uG a)*dot c v:=by rw[Int.mul_right_comm]
 omega
end Go.Proofs.YtogfcjbgeebfkaaGreatDoor
