/-
  Part of the proof of statement 7
-/
import Derived.Test.YtogfcjbgeebfkaaGreatDoorA15
import Derived.Test.YtogfcjbgeebfkaaGreatDoorA16
import Derived.Test.YtogfcjbgeebfkaaGreatDoorA11
import Derived.Test.YtogfcjbgeebfkaaGreatDoorA12
import Derived.Test.YtogfcjbgeebfkaaGreatDoorA06
import Derived.Test.YtogfcjbgeebfkaaGreatDoorA13
import Derived.Test.YtogfcjbgeebfkaaGreatDoorA07
set_option linter.unusedVariables false
set_option linter.unusedSimpArgs false
set_option maxRecDepth 100000
set_option maxHeartbeats 16000000
namespace Go.Proofs.YtogfcjbgeebfkaaGreatDoor
open Go Go.Av Go.aD
attribute [local congr] aY aS aV aQ bD aX aW aH bE
attribute [local irreducible] FC bT eX
def cL(L:aD.V×Int->List Nat)(q:aD.V×Int):List AV:=[.int .i64 q.1.x,.int .i64 q.1.y,.int .i64 q.1.z,.int .i64 q.2,.bC 0 1 (vS (L q))]
theorem qH(L:aD.V×Int->List Nat)(q:aD.V×Int):cM (cL L q)=true:=by simp only[cL,cM,AV.free,FY,Ct];rfl
structure qZ (l:List aD.V) (S:List (aD.V×Int)) (L:aD.V×Int->List Nat):Prop where
 fl:oP (fun i=>l.getD i V0) l.length S
 po:∀q∈S,Poly (fun i=>l.getD i V0) l.length q.1 q.2 (L q)
theorem oF{l:List aD.V}{M:Nat}(hl:∀v∈l,bL M v){q:aD.V×Int}(h:nA (fun i=>l.getD i V0) l.length q.1 q.2):bL (2*((M+M)*(M+M))) q.1:=by
 obtain⟨i,j,k,h1,h2,h3,hc⟩:=gA h
 have hn:∀k,k<l.length->bL M (l.getD k V0):=fun k hk=>by
  have :l.getD k V0=l[k]:=by simp[List.getD,hk]
  rw[this];exact hl _ (Ah hk)
 have key:bL (2*((M+M)*(M+M))) (fE (fun i=>l.getD i V0) i j k).1:=
  tC (iD (fW (hn j A0) (hn i A0)) (fW (hn k A0) (hn i A0)))
 unfold iO at hc;split at hc
 . cases hc
 simp only[Am,Cu,Fu] at hc
 rcases hc with e|e
 . have e1:q.1=(fE (fun i=>l.getD i V0) i j k).1:=Ao Prod.fst e;rw[e1];exact key
 have e1:q.1=aD.neg (fE (fun i=>l.getD i V0) i j k).1:=Ao Prod.fst e;rw[e1];exact JP key
theorem AH{p:Nat->aD.V}{N:Nat}{S:List (aD.V×Int)}(h:oP p N S):S.Nodup:=Hx (fun {a b} (h:gV a.1 b.1) (e:a=b)=>gV.gd b.1 (by rw[e] at h;exact h)) h.RV
theorem CS{tag:Nat}(ht:Nat.blt tag 2=true){l:List aD.V}{M:Nat}(hl:∀v∈l,bL M v)(hM:M<=2^18)(hlen:l.length<=64){S:List (aD.V×Int)}{L:aD.V×Int->List Nat}(hS:qZ l S L)(cG:S≠[])(H:aA):
 Sg 182 [.agg [.bC tag 3 (bK l)]] H (.ret (.bC (H.next+2) 5 (S.map (cL L)))) (H.alloc .tok):=by
 refine CV eC Zao (by simpa using cG) (dN (qH L) S) ?_ H;refine eH fit bBa (Al rfl) ?_;unfold aPu;dsimp only;refine bX ?_;refine Ty ?_;refine gG ?_;refine Tz ?_;refine bY ?_
 have Xg:S.length<=2^20:=by have h1:=sX (N:=l.length) (p:=fun i=>l.getD i V0) (AH hS.fl) (fun q hq=>(hS.fl.mem q).1 hq);have h2:l.length*(l.length*(l.length*2))<=64*(64*(64*2)):=Ba hlen (Ba hlen (Ba hlen (Ag _)));omega
 have rY:jH 4 (S.map jG)=.bC 0 4 (S.map jG):=if_neg (by simpa using cG);have DY:=Ly ht hl hM hlen hS.fl;rw[rY] at DY;refine aT fun K hK=>?_;refine bX ?_;refine Ty ?_;refine bO (DY _) ?_;refine Tz ?_;refine bY ?_;refine cC [3] (fun i vs H'=>∃v,vs=[v]/\Own H' 5 v ((S.take i).map (cL L))/\H'.get 0=some (.cells [.bC tag 3 (bK l)] false)/\1<=H'.next) S.length A0 A1 ?_ ?_ ?_ ?_ ?_
 . exact zq
 . simp only[zB,seval,Ai]
 . exact ZaI
 . rintro i f H1 hi hk e1 ⟨v,hv,ho,g0,hn⟩;simp only[zM] at hv;have hg:(S.map jG).getD i []=jG S[i]:=fB hi;have fo:=Ah hi;have hq:=oF hl ((hS.fl.mem _).1 fo);have hpo:=hS.po _ fo
   have uA:(S.take (i+1)).map (cL L)=(S.take i).map (cL L)++[cL L S[i]]:=by rw[Ax,Cn];simp[hi]
   rw[uA];have htl:((S.take i).map (cL L)).length=i:=Zaf;generalize S[i]=q at *;have hMM:(M+M)*(M+M)<=2^19*2^19:=Ba A0 A0;have aTm:2*((M+M)*(M+M))*M<=2^39*2^18:=Ba A0 A0;have p4:(jG q).length=4:=rfl;have p3:(jG q).take 3=cE q.1:=rfl;have p1:(jG q).getD 3 aB=.int .i64 q.2:=rfl;have Xv:¬(0=H1.next):=A0;have hpg:=Py ht hl hM hlen hq A0 hpo;have ZF:=ho;refine aP ?_;refine bX ?_;simp only[↓zP,zJ,seval,e1,hk 8 rfl,aG,Ai,hi,hg,oL p4];refine bY ?_;generalize hX:(H1.alloc _).set H1.next _=H4;have u0:H4.get 0=some (.cells [.bC tag 3 (bK l)] false):=ZaG;have u1:H4.get H1.next=some (.cells (jG q) false):=Zag;have un:H4.next=H1.next+1:=by subst hX;simp only[aA.bA,aA.bH]
   have uo:Own H4 5 v ((S.take i).map (cL L)):=by refine BZ ho A0 fun k h1 h2=>?_;subst hX;rw[aA.aC,if_neg A0,aA.aI,if_neg A0];exact h2
   clear hX;obtain⟨H5,z1,z2,z3,z4,z5⟩:=Has.push (.inr uo) (ys:=[cL L q]) (bytes:=56) rfl (by rw[htl,As,Bw];omega);generalize H1.next=r1 at *;refine Dz ?_;simp only[↓zP,zJ,seval,zD,hk 1 rfl,hv,u0,u1,p4,p3,p1,oL p4];refine dM (hpg _) ?_;have bHq:[AV.int .i64 q.1.x,.int .i64 q.1.y,.int .i64 q.1.z,.int .i64 q.2,.bC 0 1 (vS (L q))]=cL L q:=rfl;have zQ:(cL L q).length=5:=rfl;simp only[↓zP,zJ,seval,zD,u0,u1,cE,bHq,zQ];rw[show ∀x:List AV,dI H4 5 (.bC 1 5 [x])=some [x] from fun _=>rfl];simp only[z1,bQ,seval];exact⟨by omega,_,rfl,.inr ⟨H4.next,rfl,by omega,z3⟩,(z4 0 A0 (by rw[u0];simp)).trans u0,by omega⟩
 rintro f H1 hk ⟨v,hv,ho,g0,hn⟩;simp only[zM] at hv;rw[Ay] at ho;refine Tx ?_;apply hK;simp only[↓zP,zG,seval,hv];refine Rx ?_;exact⟨v,rfl,ho⟩
end Go.Proofs.YtogfcjbgeebfkaaGreatDoor
namespace Go.Proofs.YtogfcjbgeebfkaaGreatDoor
open Go Go.Av Go.lP
attribute [local congr] aY aS aV aQ bD aX aW aH bE
attribute [local irreducible] FC bT eX
def CU(z:Int):Prop:= -2^63<=z/\z<2^63
theorem CU.fit{z:Int}(h:CU z):z.natAbs<W^16:=by
 have h1:(2:Nat)^64<W^16:=by decide
 have :=h.1;have :=h.2;omega
theorem yS{v:aD.V}(hv:∀i,CU (v.at i))(H:aA):Sg 243 [.agg (cE v)] H (.ret (.agg (c3 fun i=>cI (v.at i)))) H:=by
 refine Sp aNr Zah Za5 ?_ H;unfold aGs;dsimp only;simp only[↓zP,zJ,seval,vF,oL (aM v)];refine fC [] (fun i _ H'=>H'.get 1=some (.cells (c3 fun j=>if j<i then cI (v.at j) else cI 0) false)) 3 A1 rfl A1 ?_ ?_ ?_ ?_
 . exact zq
 . simp only[seval,zI,Ar]
 . rintro i f H hi hk e1 g1;have hl:∀j,j<3->(if j<i then cI (v.at j) else cI 0).length=18:=fun j _=>by split<;>exact cJ _
   refine aP ?_;simp only[↓zP,zJ,seval,e1,hk 5 rfl,aG,hi,aM,show i+1<=3 by omega,jL v hi];refine bO (tJ (hv i).1 (hv i).2 _) ?_;simp only[↓zP,zJ,seval,hk 2 rfl,aG,hi,g1,fI hl,show i*18+18<=54 by omega];rw[YP hl hi (cJ _)]
   exact Ao (fun l=>some (eY.cells l false)) (rA fun j _=>by
    by_cases h:j=i
    . subst h;rw[if_pos rfl,if_pos A0]
    rw[if_neg h];by_cases h2:j<i
    . rw[if_pos h2,if_pos A0]
    rw[if_neg h2,if_neg A0])
 rintro f H hk g1;have e:(c3 fun j=>if j<3 then cI (v.at j) else cI 0)=c3 fun i=>cI (v.at i):=rA fun j hj=>if_pos hj;rw[e] at g1;have hl:∀j,j<3->(cI (v.at j)).length=18:=fun j _=>cJ _;simp only[↓zP,zJ,seval,hk 2 rfl,g1,oL (fI hl)];exact⟨rfl,_,by simp only[↓zP,zR,seval,hk 2 rfl,oL (fI hl)];rfl,rfl⟩
theorem aLs{a b:Nat->List AV}{x y:Nat->Option Int}(ha:∀i,i<3->dS (a i) (x i))(hb:∀i,i<3->dS (b i) (y i))(H:aA):Sg 244 [.agg (c3 a),.agg (c3 b)] H (.ret (.agg (cO (smO x y 3)))) H:=by
 have la:∀i,i<3->(a i).length=18:=fun i hi=>(ha i hi).len;have lb:∀i,i<3->(b i).length=18:=fun i hi=>(hb i hi).len;refine So aNs (by simp only[sf,iI fun i hi=>(ha i hi).free,iI fun i hi=>(hb i hi).free]) ?_ H;unfold aGt;dsimp only;refine Ty ?_;refine bO (tJ (z:=0) A1 A1 _) ?_;refine Ty ?_;refine fC [] (fun i _ H'=>H'.get 0=some (.cells (c3 a) false)/\H'.get 1=some (.cells (c3 b) false)/\H'.get 2=some (.cells (.bool false::.bool false::wC zs) false)/\H'.get 3=some (.cells (cO (smO x y i)) false)) 3 A1 rfl A1 ?_ ?_ ?_ ?_
 . exact zq
 . simp only[seval,zI];exact⟨trivial,trivial,trivial,rfl⟩
 . rintro i f H hi hk e1 ⟨g0,g1,g2,g3⟩;refine aP ?_;refine bX ?_;simp only[↓zP,zG,seval,e1];refine bY ?_;refine Dz ?_;simp only[↓zP,zJ,seval,zD,hk 5 rfl,hk 2 rfl,hk 3 rfl,aG,hi,g0,g1,g3,fI la,fI lb,pG la hi,pG lb hi,show i*18+18<=54 by omega];refine dM (tI (ha i hi) (hb i hi) _) ?_;simp only[seval];refine dM (KQ (dS.sm (x:=x) (y:=y) i) (dS.mul (x:=x i) (y:=y i)) _) ?_;simp only[↓zP,zJ,seval,zD,hk 5 rfl,g3];exact⟨g0,g1,g2,rfl⟩
 rintro f H hk ⟨g0,g1,g2,g3⟩;simp only[↓zP,zJ,seval,hk 5 rfl,hk 4 rfl,g2,g3];exact⟨rfl,_,by simp only[↓zP,zR,seval,hk 4 rfl];rfl,rfl⟩
theorem uv{a b:Nat->List AV}{x y:Nat->Option Int}(ha:∀i,i<3->dS (a i) (x i))(hb:∀i,i<3->dS (b i) (y i))(H:aA):Sg 242 [.agg (c3 a),.agg (c3 b)] H (.ret (.agg (c3 fun i=>cO (YY x y i)))) H:=by
 have la:∀i,i<3->(a i).length=18:=fun i hi=>(ha i hi).len;have lb:∀i,i<3->(b i).length=18:=fun i hi=>(hb i hi).len;refine Sp bCp (by simp only[sf,iI fun i hi=>(ha i hi).free,iI fun i hi=>(hb i hi).free]) (by simp only[sf];exact iI fun i _=>IJ _) ?_ H;unfold aRj;dsimp only;simp only[↓zP,zJ,seval,vF];refine fC [] (fun i _ H'=>H'.get 0=some (.cells (c3 a) false)/\H'.get 1=some (.cells (c3 b) false)/\H'.get 2=some (.cells (c3 fun j=>if j<i then cO (YY x y j) else cI 0) false)) 3 A1 rfl A1 ?_ ?_ ?_ ?_
 . exact zq
 . simp only[zJ,seval,Ar]
 . rintro i f H hi hk e1 ⟨g0,g1,g2⟩
   have hl:∀j,j<3->(if j<i then cO (YY x y j) else cI 0).length=18:=fun j _=>by split<;>first|exact cJ _|exact mC _
   have w1:IntKind.i64.wrap ((i:Int)+1)=((i+1:Nat):Int):=(by rw[wrap_i64 A0 A0];simp);have w2:IntKind.i64.wrap ((i:Int)+2)=((i+2:Nat):Int):=(by rw[wrap_i64 A0 A0];simp);have m1:((i+1:Nat):Int).tmod 3=(((i+1)%3:Nat):Int):=rfl;have m2:((i+2:Nat):Int).tmod 3=(((i+2)%3:Nat):Int):=rfl;have b1:(i+1)%3<3:=Bz _ A1;have b2:(i+2)%3<3:=Bz _ A1;refine aP ?_;refine bX ?_;simp only[↓zP,zG,seval,e1];refine gG ?_;simp only[↓zP,zG,seval,w1,w2,m1,m2];refine bY ?_;have p1:(i+1)%3*18+18<=54:=A0;have p2:(i+2)%3*18+18<=54:=A0;refine Dz ?_;simp only[↓zP,zJ,seval,zD,hk 2 rfl,hk 3 rfl,aG,b1,b2,p1,p2,g0,g1,fI la,fI lb,pG la b1,pG lb b2];refine dM (tI (ha _ b1) (hb _ b2) _) ?_;simp only[↓zP,zJ,seval,zD,hk 2 rfl,hk 3 rfl,aG,b1,b2,p1,p2,g0,g1,fI la,fI lb,pG la b2,pG lb b1];refine dM (tI (ha _ b2) (hb _ b1) _) ?_;simp only[seval];refine dM (YG (dS.mul (x:=x ((i+1)%3)) (y:=y ((i+2)%3))) (dS.mul (x:=x ((i+2)%3)) (y:=y ((i+1)%3))) _) ?_;simp only[↓zP,zJ,seval,zD,hk 4 rfl,g2,hi,aG,fI hl,show i*18+18<=54 by omega];refine⟨g0,g1,?_⟩;rw[YP hl hi (mC _)]
   exact Ao (fun l=>eY.cells l false) (rA fun j _=>by
    by_cases h:j=i
    . subst h;rw[if_pos rfl,if_pos A0];rfl
    rw[if_neg h];by_cases h2:j<i
    . rw[if_pos h2,if_pos A0]
    rw[if_neg h2,if_neg A0])
 rintro f H hk ⟨g0,g1,g2⟩;have e:(c3 fun j=>if j<3 then cO (YY x y j) else cI 0)=c3 fun i=>cO (YY x y i):=rA fun j hj=>if_pos hj;rw[e] at g2;have hl:∀j,j<3->(cO (YY x y j)).length=18:=fun j _=>mC _;simp only[↓zP,zJ,seval,hk 4 rfl,g2,oL (fI hl)];exact⟨rfl,_,by simp only[↓zP,zR,seval,hk 4 rfl,oL (fI hl)];rfl,rfl⟩
theorem xl{v w:aD.V}(hv:∀i,CU (v.at i))(hw:∀i,CU (w.at i))(H:aA):Sg 185 [.agg (cE v),.agg (cE w)] H (.ret (.agg (cO (smO (fun i=>some (v.at i)) (fun i=>some (w.at i)) 3)))) H:=by
 have ha:∀i,i<3->dS (cI (v.at i)) (some (v.at i)):=fun i _=>.enc (CU.fit (hv i));have hb:∀i,i<3->dS (cI (w.at i)) (some (w.at i)):=fun i _=>.enc (CU.fit (hw i));refine So aNl Zah ?_ H;unfold aGm;dsimp only;refine Ty ?_;refine Dz ?_;simp only[↓zP,zJ,seval,zD,oL (aM v)];refine dM (yS hv _) ?_;simp only[↓zP,zJ,seval,zD,oL (aM w)];refine dM (yS hw _) ?_;simp only[seval];refine dM (aLs ha hb _) ?_;simp only[↓zP,zJ,seval,zD]
 (refine Rx ?_;rfl)
theorem xi{v w:aD.V}(hv:∀i,CU (v.at i))(hw:∀i,CU (w.at i))(H:aA):Sg 184 [.agg (cE v),.agg (cE w)] H (.ret (.agg (c3 fun i=>cO (YY (fun i=>some (v.at i)) (fun i=>some (w.at i)) i)))) H:=by have ha:∀i,i<3->dS (cI (v.at i)) (some (v.at i)):=fun i _=>.enc (CU.fit (hv i));have hb:∀i,i<3->dS (cI (w.at i)) (some (w.at i)):=fun i _=>.enc (CU.fit (hw i));have hl:∀j,j<3->(cO (YY (fun i=>some (v.at i)) (fun i=>some (w.at i)) j)).length=18:=fun j _=>mC _;have hz:∀j:Nat,j<3->(cI 0).length=18:=fun j _=>cJ _;refine Sp bBc Zah (by simp only[sf];exact iI fun i _=>IJ _) ?_ H;unfold aPw;dsimp only;simp only[↓zP,zJ,seval,vF];refine Dz ?_;simp only[↓zP,zJ,seval,zD,oL (aM v)];refine dM (yS hv _) ?_;simp only[↓zP,zJ,seval,zD,oL (aM w)];refine dM (yS hw _) ?_;simp only[seval];refine dM (uv ha hb _) ?_;simp only[↓zP,zJ,seval,zD,oL (fI hl),oL (fI hz)];exact⟨rfl,_,by simp only[↓zP,zR,seval,oL (fI hl)];rfl,rfl⟩
theorem qg{a:Nat->List AV}{x:Nat->Option Int}(ha:∀i,i<3->dS (a i) (x i))(H:aA):Sg 73 [.agg (c3 a)] H (.ret (.agg (cE ⟨(eT (x 0)).1,(eT (x 1)).1,(eT (x 2)).1⟩))) H:=by
 have la:∀i,i<3->(a i).length=18:=fun i hi=>(ha i hi).len;refine Sp bEh (by simp only[sf,iI fun i hi=>(ha i hi).free]) Zah ?_ H;unfold W73;dsimp only;refine Ty ?_;refine fC [] (fun i _ H'=>H'.get 0=some (.cells (c3 a) false)/\H'.get 1=some (.cells [.int .i64 0,.int .i64 0,.int .i64 0] false)/\H'.get 2=some (.cells ([0,1,2].map fun j=>if j<i then .int .i64 (eT (x j)).1 else .int .i64 0) false)) 3 A1 rfl A1 ?_ ?_ ?_ ?_
 . exact zq
 . simp only[zJ,seval,Ar]
 . rintro i f H hi hk e1 ⟨g0,g1,g2⟩;refine aP ?_;simp only[↓zP,zJ,seval,e1,hk 1 rfl,aG,hi,g0,fI la,pG la hi,show i*18+18<=54 by omega];refine bO (wJ (ha i hi) _) ?_;simp only[↓zP,zJ,seval,hk 3 rfl,g2,aG,hi,show i+1<=3 by omega];refine⟨g0,g1,?_⟩
   match i,hi with
   |0,_=>rfl
   |1,_=>rfl
   |2,_=>rfl
 rintro f H hk ⟨g0,g1,g2⟩;simp only[↓zP,zJ,seval,hk 3 rfl,hk 2 rfl,g1,g2];exact⟨rfl,_,by simp only[↓zP,zR,seval,hk 2 rfl];rfl,rfl⟩
end Go.Proofs.YtogfcjbgeebfkaaGreatDoor
namespace Go.Proofs.YtogfcjbgeebfkaaGreatDoor
open Go Go.Av Go.aD
attribute [local congr] aY aS aV aQ bD aX aW aH bE
attribute [local irreducible] FC bT eX
theorem XT{tag:Nat}{l:List aD.V}(hlen:l.length<2^30){id r:Nat}{o:Bool}(I:Nat->aA->Prop)(AF:∀i H H',Over H H'->I i H->I i H')
 (fA:∀i (hi:i<l.length) H,I i H->∃H',rS Tryz.prog gv id [.agg (cE l[i])] H (.ret (.bool true)) H'/\I (i+1) H') {H:aA} (hr:H.get r=some (.cells [.bC tag 3 (bK l)] o)) (h0:I 0 H):
 ∃H',I l.length H'/\Sg 324 [.yield id,.ref r 0] H (.ret (.jZ [])) H':=by
 suffices h:∃out H',(out=.ret (.jZ [])/\I l.length H')/\Sg 324 [.yield id,.ref r 0] H out H' by obtain⟨_,H',⟨rfl,hm⟩,hS⟩:=h;exact⟨H',hm,hS⟩
 refine eH fit aNx (Al rfl) ?_;unfold aGy;dsimp only;refine bX ?_;simp only[↓zP,zJ,seval,hr];refine bY ?_;refine cC [] (fun i vs H'=>I i H') l.length A0 A1 ?_ ?_ ?_ ?_ ?_
 . exact zq
 . simp only[zB,seval,aR]
 . exact h0
 . rintro i f H1 hi hk e1 hI;have hg:=cH hi;have hs:=fA i hi;generalize l[i]=x at *;refine aP ?_;simp only[↓zP,zJ,seval,e1,hk 5 rfl,hk 0 rfl,aG,aR,hi,hg,oL (aM x)];obtain⟨H',hy,hI'⟩:=hs _ (AF i _ _ (((Over.refl H1).alloc (.cells [.int .i64 0,.int .i64 0,.int .i64 0] false)).set (Ag _) (.cells (cE x) false)) hI);refine FE A1 (by rfl) (by rfl) hy ?_;refine Ty ?_;exact hI'
 rintro f H1 hk hI;refine⟨rfl,_,by simp only[zR,seval];rfl,?_⟩;exact⟨rfl,hI⟩
def KX(H:aA)(lo:Nat)(v:AV)(l:List aD.V):Prop:=
 (l=[]/\v=.bB)\/∃uK,l≠[]/\v=.sl uK 3 0 l.length l.length/\H.get uK=some (.cells (bK l).flatten true)/\lo<=uK/\uK<H.next
theorem KX.push{H:aA}{lo:Nat}{v:AV}{l:List aD.V}(h:KX H lo v l)(Qj:lo<=H.next)(hlen:l.length<2^20)(x:aD.V):
 ∃v' H',fZ H 3 24 true v [cE x]=some (v',H')/\KX H' lo v' (l++[x])/\H'.next=H.next+1/\∀j,j<lo->H'.get j=H.get j:=by
 rcases h with ⟨rfl,rfl⟩|⟨uK,cG,rfl,hg,h1,h2⟩
 . refine⟨_,_,AL rfl A2,.inr ⟨H.next,by simp,rfl,by rw[aA.aI,if_pos rfl];rfl,Qj,by simp⟩,by simp,fun j hj=>by rw[aA.aI,if_neg A0]⟩
 have hl4:(bK l).flatten.length=l.length*3:=by rw[oT (sz:=3) (fun e he=>?_),aR];obtain⟨x,_,rfl⟩:=Bm.1 he;rfl
 refine⟨_,_,AM hg hl4 rfl (by simp only[As,Bw];omega) A1,.inr ⟨H.next,by simp,by simp,?_,Qj,by simp⟩,by simp,fun j hj=>by rw[aA.aI,aA.bA,if_neg A0,aA.aC,if_neg A0]⟩;rw[aA.aI,aA.bA,if_pos rfl];simp[bK]
theorem KX.over{H H':aA}{lo:Nat}{v:AV}{l:List aD.V}(h:KX H lo v l)(ho:Over H H'):KX H' lo v l:=by
 rcases h with h|⟨uK,h0,h1,h2,h3,h4⟩
 . exact .inl h
 exact .inr ⟨uK,h0,h1,(ho.same _ h4).trans h2,h3,Bj h4 ho.le⟩
theorem TF{tag:Nat}{l:List aD.V}(hlen:l.length<=64){r:Nat}{o:Bool}{H:aA}(we:r<H.next)(hr:H.get r=some (.cells [.bC tag 3 (bK l)] o)):
 ∃H' v,Over H H'/\KX H' H.next v l/\Sg 350 [.bB,.func (.func 324) [] [.ref r 0]] H (.ret v) H':=by
 suffices h:∃out H',(∃v,out=.ret v/\Over H H'/\KX H' H.next v l)/\Sg 350 [.bB,.func (.func 324) [] [.ref r 0]] H out H' by obtain⟨_,H',⟨v,rfl,h1,h2⟩,hS⟩:=h;exact⟨H',v,h1,h2,hS⟩
 refine yC fit aNy (Al rfl) ?_;unfold aGz;dsimp only;refine bX ?_;refine Ty ?_;refine bY ?_;refine aT fun K hK=>?_;refine bX ?_;refine Ty ?_;refine bY ?_
 have Xh:nD 13 (iZ (iZ (iZ (fO [.bB,.func (.func 324) [] [.ref r 0]]) 2 (.ref H.next 0)) 4 .bB) 6 (.func (.func 324) [] [.ref r 0])):=
  ((((xV (Al rfl)).1.iZ A1 _).iZ A1 _).iZ A1 _)
 have hf2:(iZ (iZ (iZ (fO [.bB,.func (.func 324) [] [.ref r 0]]) 2 (.ref H.next 0)) 4 .bB) 6 (.func (.func 324) [] [.ref r 0])) 2=.ref H.next 0:=rfl;have hf6:(iZ (iZ (iZ (fO [.bB,.func (.func 324) [] [.ref r 0]]) 2 (.ref H.next 0)) 4 .bB) 6 (.func (.func 324) [] [.ref r 0])) 6=.func (.func 324) [] [.ref r 0]:=rfl;generalize iZ (iZ (iZ (fO [.bB,.func (.func 324) [] [.ref r 0]]) 2 (.ref H.next 0)) 4 .bB) 6 (.func (.func 324) [] [.ref r 0])=f at *;refine aP ?_;refine FD (by rw[jK];exact hf6) ?_;simp only[aA.bH];generalize Ov:KT.mk [7] _ _=key
 let I:Nat->aA->Prop:=fun i H'=>Over H H'/\H.next+3<=H'.next/\H'.get (H.next+1)=some .MV/\H'.get (H.next+2)=some (.loop key (LF 13 f) .ready)/\∃v,H'.get H.next=some (.cells [v] false)/\KX H' (H.next+3) v (l.take i)
 have AF:∀i H1 H2,Over H1 H2->I i H1->I i H2:=fun i H1 H2 ho ⟨w1,w2,w3,w4,v,w5,w6⟩=>⟨⟨By w1.le ho.le,fun j hj=>(ho.same j A0).trans (w1.same j hj)⟩,By w2 ho.le,(ho.same _ A0).trans w3,(ho.same _ A0).trans w4,v,(ho.same _ A0).trans w5,w6.over ho⟩
 have h0:I 0 (((H.alloc (.cells [.bB] false)).alloc .MV).alloc (.loop key (LF 13 f) .ready)):=
  ⟨(((Over.refl H).alloc _).alloc _).alloc _,by simp,by simp[aA.aI],by simp[aA.aI],.bB,by simp[aA.aI];omega,.inl ⟨by simp,rfl⟩⟩
 have fA:∀i (hi:i<l.length) H1,I i H1->∃H',rS Tryz.prog gv (H.next+1+1) [.agg (cE l[i])] H1 (.ret (.bool true)) H'/\I (i+1) H':=by
  rintro i hi H1 ⟨w1,w2,w3,w4,v,w5,w6⟩;have uA:l.take (i+1)=l.take i++[l[i]]:=by rw[Ax];simp[hi]
  have htl:(l.take i).length=i:=by simp;omega
  generalize l[i]=x at *
  suffices h:∃H',TO Tryz.prog gv 13 key f (H.next+1+1) [.agg (cE x)] H1 (.ret (.bool true)) H'/\I (i+1) H' by obtain⟨H',hr,hI⟩:=h;exact⟨H',YJ fit Xh w4 (by rw[<-Ov];rfl) hr,hI⟩
  have ov:Over H1 ((H1.alloc (.cells [.int .i64 0,.int .i64 0,.int .i64 0] false)).set H1.next (.cells (cE x) false)):=((Over.refl H1).alloc _).set (Ag _) _;have gx:((H1.alloc (.cells [.int .i64 0,.int .i64 0,.int .i64 0] false)).set H1.next (.cells (cE x) false)).get H1.next=some (.cells (cE x) false):=by rw[aA.aC,if_pos rfl]
  have gn:((H1.alloc (.cells [.int .i64 0,.int .i64 0,.int .i64 0] false)).set H1.next (.cells (cE x) false)).next=H1.next+1:=by simp
  have bHt:∀(HA:aA) (ob:eY),Over H1 HA->HA.get H1.next=some (.cells (cE x) false)->HA.next=H1.next+1->∃v' Hp,fZ (HA.set (H.next+1+1) ob) 3 24 true v [cE x]=some (v',Hp)/\KX Hp (H.next+3) v' (l.take (i+1))/\Hp.next=HA.next+1/\∀j,j<H.next+3->Hp.get j=(HA.set (H.next+1+1) ob).get j:=fun HA ob o1 o2 o3=>by
   have :KX (HA.set (H.next+1+1) ob) (H.next+3) v (l.take i):=by
    rcases w6 with h|⟨uK,q0,q1,q2,q3,q4⟩
    . exact .inl h
    exact .inr ⟨uK,q0,q1,by rw[aA.aC,if_neg A0,o1.same _ q4];exact q2,q3,by rw[aA.bA];omega⟩
   obtain⟨v',Hp,h1,h2,h3,h4⟩:=this.push (by rw[aA.bA];omega) A0 x;exact⟨v',Hp,h1,by rw[uA];exact h2,h3,h4⟩
  have w4':=(ov.same (H.next+2) A0).trans w4;have w5':=(ov.same H.next A0).trans w5;have w3':=(ov.same (H.next+1) A0).trans w3;have w1':Over H ((H1.alloc (.cells [.int .i64 0,.int .i64 0,.int .i64 0] false)).set H1.next (.cells (cE x) false)):=⟨By w1.le ov.le,fun j hj=>(ov.same j A0).trans (w1.same j hj)⟩;obtain⟨v',Hp,p1,p2,p3,p4⟩:=bHt _ (.loop key (LF 13 f) .busy) ov gx gn
  obtain⟨sa,sb,sc,sd,se,rfl⟩:∃a b c d e,v'=.sl a b c d e:=by
   rcases p2 with ⟨h,_⟩|⟨uK,_,h,_⟩
   . rw[uA] at h;simp at h
   exact⟨_,_,_,_,_,h⟩
  refine⟨(Hp.set H.next (.cells [.sl sa sb sc sd se] false)).set (H.next+1+1) (.loop key (LF 13 f) .ready),?_,?_⟩
  . subst Ov;unfold TO;dsimp only[List.zip,List.zipWith,sU,fM]
    have aIl:FC Tryz.prog gv 13 (.ops [⟨some 5,.alloc [.int .i64 0,.int .i64 0,.int .i64 0],none⟩,⟨none,.store 3 (.tmp 5) (.tmp 7),none⟩]) (iZ f 7 (.agg (cE x))) [] H1 (fun e f1 pI H1'=>e=.normal/\f1=iZ (iZ f 7 (.agg (cE x))) 5 (.ref H1.next 0)/\pI=[]/\H1'=(H1.alloc (.cells [.int .i64 0,.int .i64 0,.int .i64 0] false)).set H1.next (.cells (cE x) false)):=by simp only[↓zP,zJ,seval,oL (aM x)]
    refine jI (fun e f1 pI H1' h=>?_) aIl;obtain⟨rfl,rfl,rfl,rfl⟩:=h;refine⟨rfl,_,_,w4',?_⟩;generalize (H1.alloc (.cells [.int .i64 0,.int .i64 0,.int .i64 0] false)).set H1.next (.cells (cE x) false)=HA at *;refine aP ?_;have n1:¬(H.next=H.next+1+1):=A0;have n2:¬(H1.next=H.next+1+1):=A0;have pb:=(p4 H.next A0).trans ((by rw[aA.aC,if_neg A0]:_=HA.get H.next).trans w5');have pl:=(p4 (H.next+1+1) A0).trans (by rw[aA.aC,if_pos rfl]);simp only[↓zP,zJ,seval,hf2,w5',gx,n1,n2,oL (aM x)];rw[eL];simp only[p1,bQ,zJ,seval,pb];exact⟨rfl,rfl,_,_,by rw[aA.aC,if_neg A0];exact pl,rfl⟩
  have pn:H1.next<=Hp.next:=by omega
  refine⟨⟨by simp only[aA.bA];have :=w1.le;omega,fun j hj=>?_⟩,by simp only[aA.bA];omega,?_,?_,.sl sa sb sc sd se,?_,?_⟩
  . rw[aA.aC,if_neg A0,aA.aC,if_neg A0,p4 j A0,aA.aC,if_neg A0];exact w1'.same j hj
  . rw[aA.aC,if_neg A0,aA.aC,if_neg A0,p4 _ A0,aA.aC,if_neg A0];exact w3'
  . rw[aA.aC,if_pos rfl]
  . rw[aA.aC,if_neg A0,aA.aC,if_pos rfl]
  rcases p2 with h|⟨uK,q0,q1,q2,q3,q4⟩
  . exact .inl h
  exact .inr ⟨uK,q0,q1,by rw[aA.aC,if_neg A0,aA.aC,if_neg A0];exact q2,q3,by simp only[aA.bA];omega⟩
 obtain⟨He,⟨w1,w2,w3,w4,v,w5,w6⟩,hS⟩:=XT (tag:=tag) (o:=o) A0 I AF fA (r:=r) (by rw[aA.aI,if_neg Zaf,aA.aI,if_neg Zaf,aA.aI,if_neg A0];exact hr) h0
 refine⟨_,He,_,_,_,hS,w4,fun Hf hf=>?_⟩;obtain⟨f1,f2⟩:=hf;show K f [.mark (H.next+1)] Hf;apply hK;clear hK K;have b0:Hf.get H.next=some (.cells [v] false):=by rw[f2,if_neg A0];exact w5
 have b1:Hf.get (H.next+1)=some .MV:=by rw[f2,if_neg A0];exact w3
 simp only[↓zP,zJ,seval,hf2,b0];rw[Ay] at w6;refine⟨b1,[v],rfl,v,rfl,⟨by rw[aA.bA,f1];exact w1.le,fun j hj=>by rw[aA.aC,if_neg A0,f2,if_neg A0];exact w1.same j hj⟩,?_⟩
 rcases w6 with h|⟨uK,q0,q1,q2,q3,q4⟩
 . exact .inl h
 exact .inr ⟨uK,q0,q1,by rw[aA.aC,if_neg A0,f2,if_neg A0];exact q2,by omega,by rw[aA.bA,f1];exact q4⟩
def aLr(p q:aD.V):Int:=orZ [uE p.x q.x,uE p.y q.y,uE p.z q.z]
theorem Nu(p q:aD.V):aLr p q<0↔gV p q:=CB (p,0) (q,0)
theorem jy(p q:aD.V)(H:aA):Sg 292 [.agg (cE p),.agg (cE q)] H (.ret (.int .i64 (aLr p q))) H:=by
 refine So bDt Zah ?_ H;unfold aSn;dsimp only;refine bX ?_;refine Ty ?_;refine gG ?_;refine Dz ?_;simp only[↓zP,zJ,seval,zD,cE,pZ];refine dM (jA p.x q.x _) ?_;simp only[↓zP,zJ,seval,zD,pZ];refine dM (jA p.y q.y _) ?_;simp only[↓zP,zJ,seval,zD,pZ];refine dM (jA p.z q.z _) ?_;simp only[↓zP,zJ,seval,zD];have SN:=yg [uE p.x q.x,uE p.y q.y,uE p.z q.z] A2;simp only[EN,sm] at SN;refine dM (SN _) ?_;simp only[↓zP,zJ,seval,zD];refine bY ?_;refine Tx ?_
 (refine Rx ?_;rfl)
def vV(q:aD.V):CX 3:=⟨[q.x,q.y,q.z],rfl⟩
def HF(x:CX 3):aD.V:=⟨x.1.getD 0 0,x.1.getD 1 0,x.1.getD 2 0⟩
theorem Ul(x:CX 3):vV (HF x)=x:=by
 obtain⟨l,hl⟩:=x
 match l,hl with
 |[a,b,c],_=>rfl
theorem dr(q:aD.V):Vh (vV q)=cE q:=rfl
theorem UZ:∀S:List aD.V,(mO (S.map vV)).map (AV.int .i64)=(bK S).flatten
 |[]=>rfl
 |q::S=>by have :=UZ S;simp only[mO,Cq,Ee,Cn,Cd,bK] at this ⊢;rw[this];rfl
theorem bLo:Go.Sort.SWO (Go.Proofs.ltOf fun x y:CX 3=>aLr (HF x) (HF y)) where
 irrefl x:=by simp only[Go.Proofs.ltOf,Nu,Cb];exact gV.gd _
 trans x y z h1 h2:=by simp only[Go.Proofs.ltOf,Nu,Bf] at *;exact gV.trans h1 h2
 ntrans x y z h1 h2:=by simp only[Go.Proofs.ltOf,Nu,Cb] at *;unfold gV at *;omega
theorem UL:AJ Tryz.prog 323:=⟨_,Tryz.func323,by kernel_rfl,by kernel_rfl⟩
theorem aEw(d:List (CX 3))(hd:d.length<4611686018427387904):
 ∃d':List (CX 3),d'.Perm d/\(d'.Pairwise fun a b=>¬aLr (HF b) (HF a)<0)/\∀(H:aA) (id:Nat) (eB:Bool),H.get id=some (.cells ((mO d).map (AV.int .i64)) eB)->
  Sg 323 [.sl id 3 0 d.length d.length,.func (.func 292) [] []] H (.ret (.jZ [])) (H.set id (.cells ((mO d').map (AV.int .i64)) eB)):=
 FJ (fun _=>rfl) Tryz.aEv A1 Tryz.isAgg33 Tryz.sizeOf33 rfl UL (jy V0 V0 ⟨0,.nil⟩).1 bLo (fun x y=>by
  have :=jy (HF x) (HF y) ⟨0,.nil⟩
  rwa [<-dr,<-dr,Ul,Ul] at this) d hd
theorem ku{tag:Nat}(l:List aD.V)(H:aA):Sg 291 [.bC tag 3 (bK l)] H (.ret (.func (.func 324) [] [.ref H.next 0])) (H.alloc (.cells [.bC tag 3 (bK l)] false)):=by refine mA aNu (Al rfl) ?_;unfold aGv;dsimp only;refine Ty ?_;refine Rx ?_;exact⟨rfl,rfl⟩
theorem Xz{tag:Nat}{l:List aD.V}(hlen:l.length<=64){r:Nat}{o:Bool}{H:aA}(we:r<H.next)(hr:H.get r=some (.cells [.bC tag 3 (bK l)] o)):
 ∃H' v,Over H H'/\KX H' H.next v l/\Sg 322 [.func (.func 324) [] [.ref r 0]] H (.ret v) H':=by
 obtain⟨H',v,h1,h2,hS⟩:=TF hlen we hr;refine⟨H',v,h1,h2,?_⟩;refine mA aNw (Al rfl) ?_;unfold aGx;dsimp only;refine Ty ?_;refine bO (hS) ?_;refine Tz ?_;refine Rx ?_;exact⟨rfl,rfl⟩
theorem Qp{tag:Nat}{l:List aD.V}(hlen:l.length<=64){r:Nat}{o:Bool}{H:aA}(we:r<H.next)(hr:H.get r=some (.cells [.bC tag 3 (bK l)] o)):
 ∃H' v S,S.Perm l/\(S.Pairwise fun a b=>¬gV b a)/\Over H H'/\KX H' H.next v S/\Sg 290 [.func (.func 324) [] [.ref r 0],.func (.func 292) [] []] H (.ret v) H':=by
 obtain⟨H1,v,h1,h2,hS⟩:=Xz hlen we hr
 rcases h2 with ⟨rfl,rfl⟩|⟨uK,cG,rfl,hg,Qj,hn⟩
 . refine⟨H1,.bB,[],.refl _,.nil,h1,.inl ⟨rfl,rfl⟩,?_⟩;refine mA aBz (Al rfl) ?_;unfold zh;dsimp only;refine Ty ?_;refine bO (hS) ?_;refine Ty ?_;refine bO (mB Tryz.aEv rfl UL 292 _) ?_;refine Tz ?_;refine Rx ?_;exact⟨rfl,rfl⟩
 obtain⟨d',q1,q2,q3⟩:=aEw (l.map vV) (by simp only[Ai];omega);have hgr:H1.get uK=some (.cells ((mO (l.map vV)).map (AV.int .i64)) true):=by rw[hg,UZ]
 have hc:=q3 H1 uK true hgr;rw[Ai] at hc;have rE:d'=(d'.map HF).map vV:=by rw[Eo];exact(El (g:=id) (fun x _=>Ul x)).trans (Gs d') |>.symm
 rw[rE,UZ] at hc
 have hp:(d'.map HF).Perm l:=by
  have h1:=q1.map HF
  rwa [Eo,show(HF∘vV)=id from rfl,Gs] at h1
 have hl:=hp.length_eq;refine⟨H1.set uK (.cells (bK (d'.map HF)).flatten true),.sl uK 3 0 (d'.map HF).length (d'.map HF).length,d'.map HF,hp,?_,⟨by rw[aA.bA];exact h1.le,fun j hj=>?_⟩,.inr ⟨uK,fun h=>cG (Cp (by rw[<-hl,h];rfl)),rfl,?_,Qj,by rw[aA.bA];exact hn⟩,?_⟩
 . rw[Ff];exact q2.imp fun h h2=>h ((Nu _ _).2 h2)
 . rw[aA.aC,if_neg A0];exact h1.same j hj
 . rw[aA.aC,if_pos rfl]
 rw[hl];refine mA aBz (Al rfl) ?_;unfold zh;dsimp only;refine Ty ?_;refine bO (hS) ?_;refine Ty ?_;refine bO (hc) ?_;refine Tz ?_;refine Rx ?_;exact⟨rfl,rfl⟩
def dd(l:List aD.V):Nat->List aD.V
 |0=>[]
 |j+1=>dd l j++(if 0<j/\l.getD j V0=l.getD (j -1) V0 then [] else [l.getD j V0])
theorem aMe(l:List aD.V):∀j,(dd l j).length<=j
 |0=>Ag _
 |j+1=>by have :=aMe l j;simp only[dd,Ap];split<;>simp <;>omega
theorem JC(R:List aD.V):(bK R).flatten.length=R.length*3:=by rw[oT (sz:=3) (fun e he=>?_),aR];obtain⟨x,_,rfl⟩:=Bm.1 he;rfl
theorem PK:∀{R:List aD.V} {p:Nat} (h:p<R.length),((bK R).flatten.drop (p*3)).take 3=cE R[p]
 |x::R,0,_=>rfl
 |x::R,p+1,h=>by have :=PK (R:=R) (p:=p) Zay;simp only[List.getElem_cons_succ,<-this,Bi,Eu];rw[Hq (p*3) 3,<-Jt];rfl
theorem PL:∀{R:List aD.V} {p:Nat} (h:p<R.length) (x:aD.V),gK (bK R).flatten (p*3) (cE x)=(bK (R.set p x)).flatten
 |y::R,0,_,x=>rfl
 |y::R,p+1,h,x=>by
  have :=PL (R:=R) (p:=p) Zay x;simp only[List.set_cons_succ];simp only[gK,bK,Cq,Cd,aM] at this ⊢;rw[<-this];have e:(p+1)*3=(p*3)+1+1+1:=by omega
  rw[e];simp only[cE,Ge,Er,Ds,Ig]
theorem WL:∀(R:List aD.V) (p:Nat),(bK R).flatten.take (p*3)=(bK (R.take p)).flatten
 |[],p=>by simp[bK]
 |x::R,0=>by simp[bK]
 |x::R,p+1=>by have :=WL R p;simp only[bK,Cq,Cd,Ds] at this ⊢;rw[<-this,show(p+1)*3=p*3+1+1+1 by omega];simp only[cE,Ge,Er,Ds]
theorem Mc:∀m:Nat,cM (List.replicate m [AV.int .i64 0,.int .i64 0,.int .i64 0]).flatten=true
 |0=>rfl
 |m+1=>by simp only[Fj,Cd,Ge,Er,cM,AV.free,Ct];exact Mc m
theorem ve(m:Nat):(List.replicate m [AV.int .i64 0,.int .i64 0,.int .i64 0]).flatten.length=m*3:=by simp
theorem nM(v w:aD.V):cT [.i,.i,.i] (cE v) (cE w)=some (decide (v=w)):=by obtain⟨a,b,c⟩:=v;obtain⟨a',b',c'⟩:=w;simp only[cE,cT,if_true,Cf,V.mk.injEq,Kg];congr 1;rw[Di];simp
theorem YA{l:List aD.V}(hlen:l.length<=64){id:Nat}{H:aA}(hid:id<H.next)(hg:H.get id=some (.cells (bK l).flatten true)):
 ∃H' rest,H'.get id=some (.cells ((bK (dd l l.length)).flatten++rest) true)/\cM rest=true/\H'.next=H.next/\(∀j,j≠id->H'.get j=H.get j)/\
  Sg 293 [.sl id 3 0 l.length l.length] H (.ret (.sl id 3 0 (dd l l.length).length l.length)) H':=by
 suffices h:∃out H',(out=.ret (.sl id 3 0 (dd l l.length).length l.length)/\∃rest,H'.get id=some (.cells ((bK (dd l l.length)).flatten++rest) true)/\cM rest=true/\H'.next=H.next/\(∀j,j≠id->H'.get j=H.get j))/\
  Sg 293 [.sl id 3 0 l.length l.length] H out H' by
  obtain⟨_,H',⟨rfl,rest,h1,h2,h3,h4⟩,hS⟩:=h;exact⟨H',rest,h1,h2,h3,h4,hS⟩
 refine eH fit aNv (Al rfl) ?_;unfold aGw;dsimp only;have cS:∀k (h:k<l.length),l.getD k V0=l[k]:=fun k h=>by simp[List.getD,h]
 have same:dd l l.length=l->(∃rest,H.get id=some (.cells ((bK (dd l l.length)).flatten++rest) true)/\cM rest=true/\H.next=H.next/\(∀j,j≠id->H.get j=H.get j)):=fun h=>⟨[],by rw[h,Cr];exact hg,rfl,rfl,fun _ _=>rfl⟩
 refine bX ?_;simp only[↓zP,zG,Nat.reduceLT];refine bY ?_;refine aT fun K hK=>?_;simp only[↓zP,zJ,Nat.reduceLT,Nat.reduceEqDiff];refine⟨fun h2=>?_,fun h2=>?_⟩
 . refine Rx ?_
   have hd:dd l l.length=l:=by
    match l,h2 with
    |[],_=>rfl
    |[a],_=>simp[dd]
    |a::b::r,h=>simp at h;omega
   exact⟨by rw[hd];rfl,same hd⟩
 apply hK;clear hK K;have hl2:2<=l.length:=by omega
 refine aT fun K hK=>?_;simp only[↓zP,zG,Nat.reduceLT];refine aP ?_;refine iA [3] (fun M vs H'=>∃k,1<=k/\k<=l.length/\M=l.length -k/\vs=[.int .i64 (k:Nat)]/\H'=H/\dd l k=l.take k) (l.length -1) (by rfl) ?_ ?_
 . refine⟨1,Ag _,by omega,rfl,rfl,rfl,?_⟩
   match l,hl2 with
   |a::r,_=>simp[dd]
 rintro M' f H1 hk ⟨k,k1,k2,rfl,hv,rfl,ey⟩;simp only[zM] at hv;refine aT fun K2 dL=>?_;simp only[↓zP,zJ,Nat.reduceLT,Nat.reduceEqDiff,hv,hk 0 rfl];refine⟨fun dT=>?_,fun KM=>?_⟩
 . apply dL;clear dL K2;have AB:k<l.length:=by omega
   have aUb:k -1<l.length:=A0;have w1:IntKind.i64.wrap ((k:Int) -1)=((k -1:Nat):Int):=(wrap_i64 A0 A0).trans A0;have fl:=JC l;have ak:=PK AB;have ak1:=PK aUb
   have fA:dd l (k+1)=l.take k++(if l[k]=l[k -1] then [] else [l[k]]):=by simp only[dd,ey,cS k AB,cS (k -1) aUb];simp[show 0<k by omega]
   refine aT fun K2 dL=>?_;refine aP ?_;refine bX ?_;refine Dz ?_;have ck:k*3+3<=l.length*3:=A0;have ck1:(k -1)*3+3<=l.length*3:=A0;simp only[↓zP,zJ,Nat.reduceLT,Nat.reduceEqDiff,Nat.reduceAdd,zD,reduceCtorEq,hv,hk 0 rfl,aG,AB,hg,w1,aUb,ak,ak1,nM,fl,ck,ck1];refine bY ?_;by_cases he:l[k]=l[k -1]
   . have hb:=Aj he
     have Ut:pX 3 (.sl id 3 0 l.length l.length) (some k) none none=some (.sl id 3 (0+k*3) (l.length -k) (l.length -k)):=by simp only[pX,Bl,Eb,Kh];rw[if_pos A0,if_pos A0,if_neg A0]
     simp only[↓zP,zJ,Nat.reduceLT,Nat.reduceEqDiff,Nat.reduceAdd,hb,hv,hk 0 rfl,dV,aG,Ut,Br];refine aP ?_;rw[if_pos he,Cr] at fA
     refine iA [3,5] (fun M vs H'=>∃kk k2 R,1<=k2/\k+k2<=l.length/\M=l.length -(k+k2)/\vs=[.int .i64 (kk:Nat),.int .i64 (k2:Nat)]/\kk<=k+k2 -1/\R.length=l.length/\R.take kk=dd l (k+k2)/\kk=(dd l (k+k2)).length/\(∀p,k+k2 -1<=p->p<l.length->R[p]?=l[p]?)/\
      H'.get id=some (.cells (bK R).flatten true)/\H'.next=H1.next/\∀j,j≠id->H'.get j=H1.get j) (l.length -(k+1)) (by rfl) ?_ ?_
     . refine⟨k,1,l,Ag _,by omega,rfl,?_,by omega,rfl,fA.symm,by rw[fA];simp;omega,fun p _ _=>rfl,hg,rfl,fun _ _=>rfl⟩;simp only[sm,zB,Nat.reduceEqDiff,hv];rfl
     rintro M' f2 H2 eW ⟨kk,k2,R,r1,r2,rfl,qK,r3,r4,r5,r6,r7,r8,r9,r10⟩;simp only[zM] at qK;obtain⟨v3,v5⟩:=qK;refine aT fun K3 BH=>?_
     have w0:decide (((k2:Nat):Int)<((l.length -k:Nat):Int))=decide (k+k2<l.length):=by rw[Bk];omega
     have Yy:=aMe l (k+k2);simp only[↓zP,zJ,Nat.reduceLT,Nat.reduceEqDiff,v5,eW 4 rfl];refine⟨fun dT=>?_,fun KM=>?_⟩
     . apply BH;clear BH K3;have hj:k+k2<l.length:=A0;have hjR:k+k2<R.length:=A0;have aZd:k+k2 -1<R.length:=A0;have aj:=PK hjR;have aj1:=PK aZd
       have ej:R[k+k2]=l[k+k2]:=by have :=r7 (k+k2) A0 hj;rw[Ac hjR,Ac hj] at this;exact Aa this
       have ej1:R[k+k2 -1]=l[k+k2 -1]:=by have :=r7 (k+k2 -1) (Ag _) A0;rw[Ac aZd,Ac (show k+k2 -1<l.length by omega)] at this;exact Aa this
       rw[ej] at aj;rw[ej1] at aj1
       have LZ:dd l (k+k2+1)=dd l (k+k2)++(if l[k+k2]=l[k+k2 -1] then [] else [l[k+k2]]):=by simp only[dd,cS (k+k2) hj,cS (k+k2 -1) A0];simp[show 0<k+k2 by omega]
       have w1:IntKind.i64.wrap ((k2:Int) -1)=((k2 -1:Nat):Int):=(wrap_i64 A0 A0).trans A0;have w2:IntKind.i64.wrap ((k2:Int)+1)=((k2+1:Nat):Int):=(wrap_i64 A0 A0).trans A0;have w3:IntKind.i64.wrap ((kk:Int)+1)=((kk+1:Nat):Int):=(wrap_i64 A0 A0).trans A0;have x1:k*3+k2*3=(k+k2)*3:=A0;have x2:k*3+(k2 -1)*3=(k+k2 -1)*3:=A0;have fR:=JC R;have y1:(k+k2)*3+3<=R.length*3:=A0;have y2:(k+k2 -1)*3+3<=R.length*3:=A0;have y3:kk*3+3<=R.length*3:=A0;have z1:k2<l.length -k:=A0;have z2:k2 -1<l.length -k:=A0;have z3:kk<l.length:=A0;refine aT fun K3 BH=>?_;refine aP ?_;refine bX ?_;refine Dz ?_;simp only[↓zP,zJ,Nat.reduceLT,Nat.reduceEqDiff,Nat.reduceAdd,zD,reduceCtorEq,v5,eW 4 rfl,aG,z1,z2,r8,w1,x1,x2,fR,y1,y2,aj,aj1,nM];refine bY ?_;by_cases Qh:l[k+k2]=l[k+k2 -1]
       . have wV:(!decide (l[k+k2]=l[k+k2 -1]))=false:=(by simp[Qh]);simp only[↓zP,zG,wV];apply BH;clear BH K3;simp only[↓zP,zJ,Nat.reduceLT,Nat.reduceEqDiff,v5,v3,w2];rw[if_pos Qh,Cr] at LZ;refine⟨_,by omega,kk,k2+1,R,by omega,by omega,rfl,rfl,by omega,r4,by rw[<-Bh,LZ];exact r5,by rw[<-Bh,LZ];exact r6,fun p p1 p2=>r7 p A0 p2,r8,r9,r10⟩
       have wV:(!decide (l[k+k2]=l[k+k2 -1]))=true:=(by simp[Qh]);have asp:=PL (R:=R) (p:=kk) A0 l[k+k2];simp only[gK] at asp;simp only[↓zP,zJ,Nat.reduceLT,Nat.reduceEqDiff,wV,v5,v3,eW 4 rfl,eW 0 rfl,hk 0 rfl,aG,z1,z3,r8,x1,fR,y1,y3,aj,w3,oL (aM l[k+k2])];apply BH;clear BH K3;simp only[↓zP,zJ,Nat.reduceLT,Nat.reduceEqDiff,v5,w2];rw[if_neg Qh] at LZ;refine⟨_,by omega,kk+1,k2+1,R.set kk l[k+k2],by omega,by omega,rfl,rfl,by omega,by rw[Ii];exact r4,?_,?_,fun p p1 p2=>?_,by rw[<-asp];rfl,r9,fun j hj=>?_⟩
       . rw[<-Bh,LZ,<-r5,Ax,List.take_set_of_le (Ag _)];simp[show kk<R.length by omega]
       . rw[<-Bh,LZ,Ap,<-r6];rfl
       . rw[Jd A0];exact r7 p A0 p2
       rw[if_neg hj];exact r10 j hj
     have vw:k+k2=l.length:=A0;obtain⟨m,hm⟩:∃m,l.length -kk=m+1:=⟨l.length -kk -1,by omega⟩
     have hs2:pX 3 (.sl id 3 0 l.length l.length) (some kk) none none=some (.sl id 3 (kk*3) (m+1) (m+1)):=by simp only[pX,Bl,Eb,Kh];rw[if_pos A0,if_pos A0,if_neg A0,hm,Dg]
     have hs3:pX 3 (.sl id 3 0 l.length l.length) none (some kk) none=some (.sl id 3 0 kk l.length):=by simp only[pX,Bl,Eb,Kh];rw[if_pos A0,if_pos A0,if_neg A0];simp
     have fR:=JC R;have aBi:kk*3+(m+1)*3<=R.length*3:=A0;simp only[↓zP,zJ,Nat.reduceEqDiff,v3,eW 0 rfl,hk 0 rfl,aG,hs2,hs3,r8,fR,aBi,Br,An];rw[vw] at r5 r6;rw[WL,r5,Dx];refine Rx ?_;refine⟨by rw[<-r6];rfl,_,by rw[aA.aC,if_pos rfl],?_,by rw[aA.bA];exact r9,fun j hj=>by rw[aA.aC,if_neg hj];exact r10 j hj⟩
     rw[iV,Mc,Bo (by rw[ve,fR];omega)]
     rfl
   have hb:=Ad he;simp only[↓zP,zG,hb];apply dL;clear dL K2;have w2:IntKind.i64.wrap ((k:Int)+1)=((k+1:Nat):Int):=(wrap_i64 A0 A0).trans A0;simp only[↓zP,zJ,Nat.reduceLT,Nat.reduceEqDiff,hv,w2];refine⟨_,by omega,k+1,by omega,by omega,rfl,rfl,trivial,?_⟩;rw[fA,if_neg he,Ax];simp[AB]
 apply hK;clear hK K dL K2;have vw:k=l.length:=by omega
 subst vw;rw[Ay] at ey;simp only[↓zP,zJ,Nat.reduceLT,Nat.reduceEqDiff,hk 0 rfl];refine Rx ?_;exact⟨by rw[ey];rfl,same ey⟩
theorem Oa(l:List aD.V)(v:aD.V):∀j,j<=l.length->(v∈dd l j↔v∈l.take j)
 |0,_=>by simp[dd]
 |j+1,h=>by
  have ih:=Oa l v j A0;have hj:j<l.length:=h;have hg:l.getD j V0=l[j]:=by simp[List.getD,hj]
  rw[Ax,Ac hj];simp only[dd,Aq,ih,hg,Option.toList_some,Am,Cu,Fu];split
  . rename_i hc;obtain⟨h0,he⟩:=hc;have LX:j -1<l.length:=by omega
    have ZA:l.getD (j -1) V0=l[j -1]:=(by simp[List.getD,LX]);simp only[Cu,Fu];refine⟨.inl,fun h=>h.elim id fun e=>?_⟩;rw[e,he,ZA];exact List.mem_take_iff_getElem.2 ⟨j -1,by omega,rfl⟩
  simp
theorem Yf{l:List aD.V}(hs:l.Pairwise fun a b=>¬gV b a):∀j,j<=l.length->(dd l j).Pairwise gV
 |0,_=>.nil
 |j+1,h=>by
  have ih:=Yf hs j A0;have hj:j<l.length:=h;have hg:l.getD j V0=l[j]:=by simp[List.getD,hj]
  simp only[dd,hg];split
  . rw[Cr];exact ih
  rename_i hc;rw[List.pairwise_append];refine⟨ih,List.pairwise_singleton _ _,fun v hv x hx=>?_⟩;simp only[Am,Cu,Fu] at hx;subst hx;rw[Oa l v j A0] at hv;obtain⟨i,hi,rfl⟩:=List.mem_take_iff_getElem.1 hv;have uU:i<j:=by omega
  have LX:j -1<l.length:=by omega
  have ZA:l.getD (j -1) V0=l[j -1]:=by simp[List.getD,LX]
  rw[ZA] at hc;have cG:l[j]≠l[j -1]:=fun e=>hc ⟨by omega,e⟩;have hp:=Gk.1 hs;have p1:=hp (j -1) j LX hj A0;have p2:gV l[j -1] l[j]:=(gV.total cG).elim (fun h=>absurd h p1) id;by_cases Xm:i=j -1
  . subst Xm;exact p2
  have p3:=hp i (j -1) A0 LX A0;generalize l[i]=a at *;generalize l[j -1]=b at *;generalize l[j]=c at *;unfold gV at *;omega
structure Ord (l C:List aD.V):Prop where
 RV:C.Pairwise gV
 mem:∀v,v∈C↔v∈l
theorem Ord.uniq{l C C':List aD.V}(h:Ord l C)(h':Ord l C'):C=C':=
 CI (R:=gV) gV.gd (fun h h'=>gV.trans h h') h.RV h'.RV fun v=>(h.mem v).trans (h'.mem v).symm
theorem Ord.of{l S C:List aD.V}(hp:S.Perm l)(hs:S.Pairwise fun a b=>¬gV b a)(h:Ord l C):dd S S.length=C:=
 Ord.uniq (l:=l) ⟨Yf hs _ (Ag _),fun v=>by rw[Oa S v _ (Ag _),Ay];exact hp.mem_iff⟩ h
theorem MN(H:aA):Sg 293 [.bB] H (.ret .bB) H:=by refine mA aNv (Al rfl) ?_;unfold aGw;dsimp only;refine bX ?_;refine Tz ?_;refine bY ?_;refine aT fun K hK=>?_;refine Ty ?_;refine⟨fun h2=>?_,fun h2=>absurd (show((0:Int)<2) by decide) (by simp at h2)⟩;refine Rx ?_;exact⟨rfl,rfl⟩
theorem Rh{sz:Nat}:∀{els:List (List AV)} (rest:List AV),(∀e∈els,e.length=sz)->fK sz els.length (els.flatten++rest)=els
 |[],_,_=>rfl
 |e::els,rest,h=>by have he:=h e Bc;simp only[As,fK,Cd,Dx];rw[Cx A0,Bb A0,Je A0,Bo A0,Er,Rh rest fun x hx=>h x (Aw _ hx)]
theorem ui{tag:Nat}(ht:Nat.blt tag 2=true){l C:List aD.V}(hlen:l.length<=64)(hC:Ord l C)(H:aA):
 Sg 252 [.bC tag 3 (bK l)] H (.ret (jH 3 (bK C))) H:=by
 refine eS fit eC aNt (Al rfl) Zao ?_ H;unfold aGu;dsimp only;obtain⟨H1,v,S,hp,hs,ho,hr,hS⟩:=Qp (tag:=tag) hlen (r:=0) (o:=false) (H:=(aA.mk 0 .nil).alloc (.cells [.bC tag 3 (bK l)] false)) A2 rfl;have ey:=Ord.of hp hs hC;have Xg:=hp.length_eq;refine Ty ?_;refine bO (ku (tag:=tag) l _) ?_;simp only[seval];refine bO (hS) ?_
 rcases hr with ⟨rfl,rfl⟩|⟨uK,cG,rfl,hg,Qj,hn⟩
 . refine Tz ?_;refine bO (MN _) ?_;refine Tz ?_;refine Rx ?_;rw[<-ey];exact⟨_,0,rfl,fun nw=>rfl⟩
 obtain⟨H2,rest,c1,c2,c3,c4,hcS⟩:=YA A0 hn hg;refine Tz ?_;refine bO (hcS) ?_;refine Tz ?_;refine Rx ?_;rw[ey] at c1 ⊢
 have hCn:¬bK C=[]:=by
  intro h;have :C=[]:=by simpa [bK] using h
  rw[this] at ey
  match S,cG with
  |x::r,_=>have :=(Oa (x::r) x _ (Ag _)).2 A2;rw[ey] at this;cases this
 refine⟨.sl uK 3 0 C.length S.length,0,rfl,fun nw=>?_⟩;have hc:H2.eG uK=some ((bK C).flatten++rest):=by simp[aA.eG,c1]
 have hu:∀e∈bK C,e.length=3:=fun e he=>by obtain⟨x,_,rfl⟩:=Bm.1 he;rfl
 have hle:Nat.ble (0+C.length*3) ((bK C).flatten++rest).length=true:=by rw[Ap,JC];exact Nat.ble_eq_true_of_le A0
 have yB:cM ((bK C).flatten++rest)=true:=by rw[iV,mK (show eI (bK C)=true from dN bV C),c2];rfl
 rw[jH,if_neg hCn];simp only[gT,kT,hc,Ej,hle,yB,Du];rw[show C.length=(bK C).length from (aR C).symm,Rh rest hu]
end Go.Proofs.YtogfcjbgeebfkaaGreatDoor
