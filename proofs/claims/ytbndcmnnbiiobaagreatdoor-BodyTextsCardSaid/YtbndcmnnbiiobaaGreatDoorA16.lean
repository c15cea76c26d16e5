/-
  Part of the proof of statement 5
-/
import Derived.Test.YtbndcmnnbiiobaaGreatDoorA15
import Derived.Test.YtbndcmnnbiiobaaGreatDoorA12
import Derived.Test.YtbndcmnnbiiobaaGreatDoorA07
import Derived.Test.YtbndcmnnbiiobaaGreatDoorA05
import Derived.Test.YtbndcmnnbiiobaaGreatDoorA10
import Derived.Test.YtbndcmnnbiiobaaGreatDoorA11
set_option linter.unusedVariables false
set_option maxRecDepth 100000
set_option maxHeartbeats 16000000
namespace Go.Proofs.YtbndcmnnbiiobaaGreatDoor
open Go Go.Av Go.aG Go.mO
attribute [local congr] aU aO aP aN aY aR aQ aI aZ
attribute [local irreducible] FC bL eU
theorem aCd:∀c:Fin 256,UN c.1=((decide (97<=c.1)&&decide (c.1<=122))||(decide (65<=c.1)&&decide (c.1<=90))):=by decide
theorem b7 {c:Nat} (hc:c<256) (H:aA):Sg 92 [.int .u8 c] H (.ret (.bool (UN c))) H:=by
 refine So bIq (by simp only[sf]) ?_ H;unfold W92;dsimp only;have hl:=aCd ⟨c,hc⟩;simp only at hl;rw[hl];have d1:decide ((c:Int)≥97)=decide (97<=c):=by rw[Az];omega
 have d2:decide ((c:Int)<=122)=decide (c<=122):=by rw[Az];omega
 have d3:decide ((c:Int)≥65)=decide (65<=c):=by rw[Az];omega
 have d4:decide ((c:Int)<=90)=decide (c<=90):=by rw[Az];omega
 generalize decide (97<=c)=A at *;generalize decide (c<=122)=B at *;generalize decide (65<=c)=C at *;generalize decide (c<=90)=D at *
 cases A with
 |true=>
  cases B with
  |true=>simp only[↓zP,zJ,seval,d1,d2,mM];refine Rx ?_;rfl
  |false=>
   cases C with
   |true=>simp only[↓zP,zJ,seval,d1,d2,d3,d4];refine Rx ?_;rfl
   |false=>simp only[↓zP,zJ,seval,d1,d2,d3];refine Rx ?_;rfl
 |false=>
  cases C with
  |true=>simp only[↓zP,zJ,seval,d1,d3,d4];refine Rx ?_;simp[pY]
  |false=>simp only[↓zP,zJ,seval,d1,d3];refine Rx ?_;simp[pY]
theorem XZ (s:List UInt8) (hlen:s.length<2^63) (H:aA):Sg 44 [.str s] H (.ret (.bool (mJ s))) H:=by
 refine So bHk (by simp only[sf]) ?_ H;unfold W44;dsimp only;have d1:decide ((s.length:Int)<1)= !decide (1<=s.length):=by rw[<-Hd,Az];omega
 have d2:decide ((s.length:Int)>32)= !decide (s.length<=32):=by rw[<-Hd,Az];omega
 refine bS ?_;simp only[↓zP,zG,seval];refine fL ?_
 cases h1:decide (1<=s.length) with
 |false=>rw[h1] at d1;simp only[↓zP,zJ,seval,d1];refine Rx ?_;unfold mJ;rw[h1];simp[pY]
 |true=>
 rw[h1] at d1
 cases h2:decide (s.length<=32) with
 |false=>rw[h2] at d2;simp only[↓zP,zJ,seval,d1,d2];refine Rx ?_;unfold mJ;rw[h2];simp[pY]
 |true=>
 rw[h2] at d2;have h2':=Ea h2;simp only[↓zP,zJ,seval,d1,d2];refine bT ?_;refine aJ fun K hK=>?_;simp only[↓zP,zG,seval];refine bG [] (fun i vs H'=>∀k,k<i->BA k (s.getD k 0).toNat=true) 0 s.length (Bb _) (by omega) (by decide) ?_ ?_ ?_ ?_ ?_
 · simp only[zB,seval]
 · exact fun k hk=>absurd hk (Ax _)
 · rintro i f H1 h0 hi hk e1 _;have f0:f 0=.str s:=hk 0 rfl;simp only[↓zP,zG,seval,e1,f0];exact tB (by omega)
 · rintro i f H1 h0 hi hk e1 hJ;have f0:f 0=.str s:=hk 0 rfl
   have hg:s[i]?=some (s.getD i 0):=(by simp[List.getD,hi]);have aAx:(s.getD i 0).toNat<256:=(s.getD i 0).toNat_lt
   have dB:BA i (s.getD i 0).toNat=true->∀k,k<i+1->BA k (s.getD k 0).toNat=true:=fun h k hk=>by
    by_cases e:k=i
    · subst e;exact h
    exact hJ k (by omega)
   have vJ:BA i (s.getD i 0).toNat=false->mJ s=false:=fun h=>by
    have :(List.range s.length).all (fun k=>BA k (s.getD k 0).toNat)=false:=by rw[Hu];exact⟨i,Bi.2 hi,by rw[h];decide⟩
    unfold mJ;rw[this];rfl
   have bFe:=b7 aAx;refine aH ?_;refine aJ fun K2 cK=>?_;simp only[↓zP,zG,seval,e1,f0,aB,hg];refine bK (bFe _) ?_;generalize hb:s.getD i 0=b at *;generalize hc:b.toNat=c at *;have d4:((i:Int)==0)=decide (i=0):=by rw[Gm,Az];omega
   have d5:((c:Int) != 95)= !decide (c=95):=by have :((c:Int)==95)=decide (c=95):=(by rw[Gm,Az];omega);rw[bne,this]
   have d6:decide ((c:Int)<48)= !decide (48<=c):=(by rw[<-Hd,Az];omega);have d7:decide ((c:Int)>57)= !decide (c<=57):=(by rw[<-Hd,Az];omega);unfold BA at dB vJ;generalize UN c=LC at *;generalize decide (i=0)=D4 at *;generalize decide (c=95)=D5 at *;generalize decide (48<=c)=D6 at *;generalize decide (c<=57)=D7 at *
   cases LC with
   |true=>simp only[↓zP,zJ,seval,mM];apply cK;clear cK K2;simp only[↓zP,zG,seval];exact dB (by simp)
   |false=>
    cases D4 with
    |true=>simp only[↓zP,zJ,seval,e1,d4,mM];apply cK;clear cK K2;simp only[↓zP,zG,seval];refine Rx ?_;rw[vJ (by simp)];rfl
    |false=>
     cases D5 with
     |true=>simp only[↓zP,zJ,seval,f0,e1,aB,hg,hc,d4,d5,mM];apply cK;clear cK K2;simp only[↓zP,zG,seval];exact dB (by simp)
     |false=>
      cases D6 with
      |false=>simp only[↓zP,zJ,seval,f0,e1,aB,hg,hc,d4,d5,d6];apply cK;clear cK K2;simp only[↓zP,zG,seval];refine Rx ?_;rw[vJ (by simp)];rfl
      |true=>
       cases D7 with
       |false=>simp only[↓zP,zJ,seval,f0,e1,aB,hg,hc,d4,d5,d6,d7];apply cK;clear cK K2;simp only[↓zP,zG,seval];refine Rx ?_;rw[vJ (by simp)];rfl
       |true=>simp only[↓zP,zJ,seval,f0,e1,aB,hg,hc,d4,d5,d6,d7];apply cK;clear cK K2;simp only[↓zP,zG,seval];exact dB (by simp)
 rintro f H1 hk hJ
 have dB:(List.range s.length).all (fun k=>BA k (s.getD k 0).toNat)=true:=by rw[Ba];exact fun k hk=>hJ k (Bi.1 hk)
 simp only[↓zP,seval];apply hK;clear hK K;simp only[↓zP,zG,seval];refine Rx ?_;unfold mJ;rw[dB,h1,h2];rfl
theorem WK {v:aG.V}:wA v=true↔∃c,c<3/\(v.at c>4096\/v.at c< -4096):=by
 unfold wA;simp only[Dt,Bh];constructor
 · rintro(h|h|h)
   · exact⟨0,by decide,h⟩
   · exact⟨1,by decide,h⟩
   exact⟨2,by decide,h⟩
 rintro⟨c,hc,h⟩
 match c,hc with
 |0,_=>exact .inl h
 |1,_=>exact .inr (.inl h)
 |2,_=>exact .inr (.inr h)
theorem uq {tag:Nat} (ht:Nat.blt tag 2=true) {l:List aG.V} (hlen:l.length<2^30) (H:aA):
 Sg 46 [.agg [.aV tag 3 (bF l)]] H (.ret (.bool (!l.any wA))) H:=by
 refine So bHl (by simp only[sf,cE ht]) ?_ H;unfold W46;dsimp only;have wO:(bF l).length=l.length:=aL _;simp only[↓zP,zJ,seval];refine bG [] (fun i _ H'=>H'.get 0=some (.cells [.aV tag 3 (bF l)] false)/\∀v∈l.take i,wA v=false) 0 l.length (Bb _) (by omega) (by decide) ?_ ?_ ?_ ?_ ?_
 · simp only[zB,seval]
 · exact⟨by simp only[zI,seval],fun v hv=>by simp at hv⟩
 · rintro i f H1 h0 hi hk e1 ⟨g0,_⟩;have f1:f 1=.ref 0 0:=hk 1 rfl;simp only[↓zP,zJ,seval,e1,f1,g0,wO];exact tB (by omega)
 · rintro i f H1 h0 hi hk e1 ⟨g0,vJ⟩;have f1:f 1=.ref 0 0:=hk 1 rfl;have hg:=bY hi;have uG:=Ai hi
   have hx:∀v,v∈l.take (i+1)->v∈l.take i\/v=l[i]:=fun v hv=>by
    rw[Ap,As] at hv
    rcases hv with h|h
    · exact .inl h
    simp[hi] at h;exact .inr h
   generalize l[i]=x at *;refine aH ?_;refine bS ?_;simp only[↓zP,zG,seval];refine bT ?_;refine bG [] (fun j _ H'=>H'.get 0=some (.cells [.aV tag 3 (bF l)] false)/\∀c,c<j->¬(x.at c>4096)/\¬(x.at c< -4096)) 0 3 (Bb _) (by decide) (by decide) ?_ ?_ ?_ ?_ ?_
   · simp only[zB,seval]
   · exact⟨g0,fun c hc=>absurd hc (Ax _)⟩
   · rintro j g H2 WT hj dA e2 hJ;simp only[↓zP,zG,seval,e2];exact tB (by omega)
   · rintro j g H2 WT hj dA e2 ⟨AA,hc⟩;have u1:g 1=.ref 0 0:=(by rw[dA 1 rfl];simp only[zB,seval];exact f1);have u3:g 3=.int .i64 i:=(by rw[dA 3 rfl];simp only[zB,seval];exact e1);have GC:(x.at j>4096\/x.at j< -4096)->l.any wA=true:=fun h=>Cz.2 ⟨x,uG,WK.2 ⟨j,hj,h⟩⟩;have Nc:1<=(List.drop j (bZ x)).length:=(by rw[Dy,aM];omega);have we:(List.drop j (bZ x)).getD 0 aD=.int .i64 (x.at j):=(by rw[<-iM x hj];simp[List.getD]);refine aH ?_;refine aJ fun K2 cK=>?_;by_cases c1:x.at j>4096
     · have d1:=Al c1;simp only[↓zP,zJ,seval,e2,u1,u3,AA,aB,aL,hi,hg,hj,Nc,we,d1];apply cK;clear cK K2;simp only[↓zP,zG,seval];refine Rx ?_;rw[GC (.inl c1)];rfl
     have d1:=Ae c1;by_cases c2:x.at j< -4096
     · have d2:=Al c2;simp only[↓zP,zJ,seval,e2,u1,u3,AA,aB,aL,hi,hg,hj,Nc,we,d1,d2];apply cK;clear cK K2;simp only[↓zP,zG,seval];refine Rx ?_;rw[GC (.inr c2)];rfl
     have d2:=Ae c2;simp only[↓zP,zJ,seval,e2,u1,u3,AA,aB,aL,hi,hg,hj,Nc,we,d1,d2];apply cK;clear cK K2;simp only[↓zP,zG,seval];refine⟨AA,fun c h=>?_⟩;by_cases hcj:c=j
     · subst hcj;exact⟨c1,c2⟩
     exact hc c (by omega)
   rintro g H2 dA ⟨AA,hc⟩;simp only[↓zP,seval];refine⟨AA,fun v hv=>?_⟩
   rcases hx v hv with h|rfl
   · exact vJ v h
   rw[<-Gg,WK];rintro⟨c,h1,h2⟩;have :=hc c h1;omega
 rintro f H1 hk ⟨g0,vJ⟩;rw[Ar] at vJ;simp only[↓zP,seval];refine Rx ?_
 have :l.any wA=false:=by rw[Fo];exact fun v hv=>by rw[vJ v hv];decide
 rw[this];rfl
theorem iq (n:aG.V):∀(l:List aG.V) (m:Int),xO (aG.neg n) (-m) l= -(xD n m l)
 |[],m=>rfl
 |v::l,m=>by
  have ih:=iq n l;unfold xO xD at ih ⊢;simp only[Jm]
  have :(if aG.dot (aG.neg n) v< -m then aG.dot (aG.neg n) v else -m)= -(if aG.dot n v>m then aG.dot n v else m):=by
   rw[pP];by_cases h:aG.dot n v>m
   · rw[if_pos h,if_pos (by omega)]
   rw[if_neg h,if_neg (by omega)]
  rw[this,ih]
theorem gd (n:aG.V):∀(l:List aG.V) (m:Int),xD (aG.neg n) (-m) l= -(xO n m l)
 |[],m=>rfl
 |v::l,m=>by
  have ih:=gd n l;unfold xO xD at ih ⊢;simp only[Jm]
  have :(if aG.dot (aG.neg n) v> -m then aG.dot (aG.neg n) v else -m)= -(if aG.dot n v<m then aG.dot n v else m):=by
   rw[pP];by_cases h:aG.dot n v<m
   · rw[if_pos h,if_pos (by omega)]
   rw[if_neg h,if_neg (by omega)]
  rw[this,ih]
theorem MD (a b:List aG.V) (n:aG.V):oF a b n=oF b a n:=by unfold oF;exact Bool.or_comm _ _
theorem aEb (a b:List aG.V) (n:aG.V):oF a b (aG.neg n)=oF a b n:=by
 unfold oF;simp only[pP,iq,gd];rw[Bool.or_comm];congr 1
 · rw[Az];omega
 rw[Az];omega
theorem WB {a b:List aG.V} (h:lX a b=true):lX b a=true:=by
 obtain⟨n,hD,hs⟩:=pM.1 h
 rcases hD with hF|hF|⟨u,w,hu,hw,rfl,hn⟩
 · exact pM.2 ⟨n,.inr (.inl hF),by rw[MD];exact hs⟩
 · exact pM.2 ⟨n,.inl hF,by rw[MD];exact hs⟩
 refine pM.2 ⟨aG.neg (aG.aT u w),.inr (.inr ⟨w,u,hw,hu,(Yo u w).symm,fun e=>UP hn e⟩),?_⟩;rw[aEb,MD];exact hs
theorem nf (a b:List aG.V):lX a b=lX b a:=by rw[Du];exact⟨WB,WB⟩
theorem au {name:List UInt8} (mC:name.length<2^63) {ps:List (AV×List aG.V)} (oZ:∀p∈ps,mP p) (hlen:∀p∈ps,p.2.length<2^30) (nP:ps.length<2^30) (m0 m1 r0 r1:Int) (H:aA):
 Sg 18 [.agg (bX name (.aV 0 1 (jF ps)) m0 m1 r0 r1)] H (.ret (.int .i64 (kS name (ps.map (·.2)) m0 m1 r0 r1))) H:=by
 have DI:bU [AV.agg (bX name (.aV 0 1 (jF ps)) m0 m1 r0 r1)]=true:=by simp only[sf,bX,CG oZ]
 refine So aZj DI ?_ H;have wO:(ps.map (·.2)).length=ps.length:=Ad _;unfold W18;dsimp only;have GG:(jF ps).length=ps.length:=Ad _;have d1:decide ((ps.length:Int)<1)=decide (ps.length<1):=by rw[Az];omega
 have d2:decide ((ps.length:Int)>8)=decide (8<ps.length):=by rw[Az];omega
 refine bS ?_;simp only[↓zP,zJ,seval,bX];refine bT ?_;generalize hX:(aA.mk 0 .nil).alloc _=HA;have g0:HA.get 0=some (.cells [.str name,.aV 0 1 (jF ps),.int .i64 m0,.int .i64 m1,.int .i64 r0,.int .i64 r1] false):=by subst hX;simp only[zI,seval]
 clear hX;have qc:=XZ name mC;refine bS ?_;simp only[↓zP,zJ,seval,g0];refine bK (qc _) ?_
 cases hv:mJ name with
 |false=>simp only[↓zP,zJ,seval];refine Rx ?_;unfold kS;rw[if_pos hv];rfl
 |true=>
 simp only[↓zP,zJ,seval];refine fL ?_
 cases h1:decide (ps.length<1) with
 |true=>rw[h1] at d1;simp only[↓zP,zJ,seval,g0,GG,d1];refine Rx ?_;unfold kS;rw[if_neg (by rw[hv];decide),if_pos (.inl (by rw[wO];exact Ea h1))];rfl
 |false=>
 rw[h1] at d1
 cases h2:decide (8<ps.length) with
 |true=>rw[h2] at d2;simp only[↓zP,zJ,seval,g0,GG,d1,d2];refine Rx ?_;unfold kS;rw[if_neg (by rw[hv];decide),if_pos (.inr (by rw[wO];exact Ea h2))];rfl
 |false=>
 rw[h2] at d2
 have IT:TZ m0 m1 r0 r1=true->kS name (ps.map (·.2)) m0 m1 r0 r1=1:=fun hb=>by unfold kS;rw[if_neg (by rw[hv];decide),if_neg (by rw[wO];intro h;rcases h with h|h;exact Ek h1 h;exact Ek h2 h),if_pos hb]
 have hB0:TZ m0 m1 r0 r1=false->kS name (ps.map (·.2)) m0 m1 r0 r1=uP (ps.map (·.2)):=fun hb=>by unfold kS;rw[if_neg (by rw[hv];decide),if_neg (by rw[wO];intro h;rcases h with h|h;exact Ek h1 h;exact Ek h2 h),if_neg (by rw[hb];decide)]
 unfold TZ at IT hB0;simp only[↓zP,zJ,seval,g0,GG,d1,d2];refine bT ?_;refine tC fun f hf=>?_;have f1:f 1=.ref 0 0:=by subst hf;simp only[zB,seval]
 clear hf;refine aJ fun K hK=>?_
 cases ZK:decide (m0<1) with
 |true=>rw[ZK] at IT;simp only[↓zP,zJ,seval,f1,g0,jI,ZK];refine Rx ?_;rw[IT (by simp)];rfl
 |false=>
 cases og:decide (m1<m0) with
 |true=>rw[og] at IT;simp only[↓zP,zJ,seval,f1,g0,jI,ZK,og];refine Rx ?_;rw[IT (by simp)];rfl
 |false=>
 cases g3':decide (m1>1099511627776) with
 |true=>rw[g3'] at IT;simp only[↓zP,zJ,seval,f1,g0,jI,ZK,og,g3'];refine Rx ?_;rw[IT (by simp)];rfl
 |false=>
 cases g4':decide (r0<0) with
 |true=>rw[g4'] at IT;simp only[↓zP,zJ,seval,f1,g0,jI,ZK,og,g3',g4'];refine Rx ?_;rw[IT (by simp)];rfl
 |false=>
 cases g5':decide (r1<r0) with
 |true=>rw[g5'] at IT;simp only[↓zP,zJ,seval,f1,g0,jI,ZK,og,g3',g4',g5'];refine Rx ?_;rw[IT (by simp)];rfl
 |false=>
 cases g6':decide (r1>4000) with
 |true=>rw[g6'] at IT;simp only[↓zP,zJ,seval,f1,g0,jI,ZK,og,g3',g4',g5',g6'];refine Rx ?_;rw[IT (by simp)];rfl
 |false=>
 rw[ZK,og,g3',g4',g5',g6'] at hB0;rw[hB0 rfl] at hK ⊢;clear IT hB0;simp only[↓zP,zJ,seval,f1,g0,jI,ZK,og,g3',g4',g5',g6'];apply hK;clear hK K;refine tC fun g hf=>?_;have g1:g 1=.ref 0 0:=by subst hf;simp only[zB,seval];exact f1
 clear hf f1 f
 have hF:∀i (hi:i<ps.length),(∀j (hj:j<i),fA (ps[j]'(Cg hj hi)).2=0)->fA ps[i].2≠0->uP (ps.map (·.2))=fA ps[i].2:=fun i hi h1 h2=>by have :=QE (ls:=ps.map (·.2)) (i:=i) (by rw[wO];exact hi) (fun j hj=>by rw[Co];exact h1 j hj) (by rw[Co];exact h2);rw[this,Co]
 generalize Ot:[AV.str name,.aV 0 1 (jF ps),.int .i64 m0,.int .i64 m1,.int .i64 r0,.int .i64 r1]=bc at *;have zi:bc.getD 1 aD=.aV 0 1 (jF ps):=by subst Ot;rfl
 have bl:bc.length=6:=by subst Ot;rfl
 refine aJ fun K hK=>?_;refine bS ?_;simp only[↓zP,zG,seval];refine bT ?_;refine bG [] (fun i _ H'=>H'=HA/\∀j (hj:j<i) (hl:j<ps.length),fA ps[j].2=0) 0 ps.length (Bb _) (by omega) (by decide) ?_ ?_ ?_ ?_ ?_
 · simp only[zB,seval]
 · exact⟨rfl,fun j hj=>absurd hj (Ax _)⟩
 · rintro i f H1 h0 hi hk e1 ⟨rfl,_⟩;have f1:f 1=.ref 0 0:=by rw[hk 1 rfl];simp only[zB,seval];exact g1
   simp only[↓zP,zJ,seval,e1,f1,g0,bl,zi,GG];exact tB (by omega)
 · rintro i f H1 h0 hi hk e1 ⟨rfl,hJ⟩;have f1:f 1=.ref 0 0:=by rw[hk 1 rfl];simp only[zB,seval];exact g1
   have hg:(jF ps).getD i []=[ps[i].1]:=dT hi;have hp:=oZ _ (Ai hi);have hl:=hlen _ (Ai hi);have hFi:=hF i hi (fun j hj=>hJ j hj (Cg hj hi))
   have ou:fA ps[i].2=0->∀j (hj:j<i+1) (hl:j<ps.length),fA ps[j].2=0:=fun h j hj hl=>by
    by_cases e:j=i
    · subst e;exact h
    exact hJ j (by omega) hl
   generalize ps[i]=p at *;obtain⟨pv,l⟩:=p;simp only at hg hp hl hFi ou;have hc:=QH hp hl;simp only at hc;refine aH ?_;refine bS ?_;simp only[↓zP,zJ,seval,e1,f1,g0,bl,zi,aB,GG,hi,hg];refine bK (hc _) ?_;simp only[↓zP,zG,seval];refine bT ?_;refine aJ fun K2 cK=>?_;by_cases he:oX l=0
   · have hb:(oX l != 0)=false:=(by simp[he]);obtain⟨_,_,_,_,aWt,NN,aWw⟩:=vW he
     obtain⟨rfl⟩:pv=.aV 0 3 (bF l):=by
      rcases hp with ⟨_,h⟩|h
      · exact absurd h NN
      exact h
     have hsh:=uq (tag:=0) rfl hl;simp only[↓zP,zG,seval,hb];apply cK;clear cK K2;simp only[↓zP,zJ,seval,e1,f1,g0,bl,zi,aB,GG,hi,hg];refine bK (hsh _) ?_
     cases hfa:l.any wA with
     |true=>have Tw:fA l=1:=(by unfold fA;rw[if_neg (by simp[he]),hfa];rfl);simp only[↓zP,zJ,seval];refine Rx ?_;rw[hFi (by rw[Tw];decide),Tw];rfl
     |false=>have aSe:fA l=0:=(by unfold fA;rw[if_neg (by simp[he]),hfa];rfl);simp only[↓zP,zJ,seval];exact⟨trivial,ou aSe⟩
   have hb:(oX l != 0)=true:=(by simp[he]);have hpc:fA l=oX l:=(by unfold fA;rw[if_pos he]);simp only[↓zP,zG,seval,hb];refine Rx ?_;rw[hFi (by rw[hpc];exact he),hpc];rfl
 rintro f H1 hk ⟨rfl,hJ⟩;have dB:∀j (hl:j<ps.length),fA ps[j].2=0:=fun j hl=>hJ j hl hl
 have hR:=zO (ls:=ps.map (·.2)) (fun l hl=>by
  obtain⟨p,hp,rfl⟩:=Bf.1 hl;obtain⟨j,hj,rfl⟩:=Cv hp
  exact dB j hj)
 have PF:∀j (hl:j<ps.length),oX ps[j].2=0/\ps[j].1=.aV 0 3 (bF ps[j].2)/\∀v∈ps[j].2,bM (2^12) v:=fun j hl=>by
  obtain⟨h0,hfv⟩:=Uc (dB j hl);refine⟨h0,?_,fun v hv=>?_⟩
  · rcases oZ _ (Ai hl) with ⟨_,h⟩|h
    · rw[h,IE] at h0;cases h0
    exact h
  have :=hfv v hv;simp only[wA,Kz,Cc] at this;unfold bM;omega
 have f1:f 1=.ref 0 0:=by rw[hk 1 rfl];simp only[zB,seval];exact g1
 simp only[↓zP,seval];apply hK;clear hK K;refine aJ fun K hK=>?_;refine bS ?_;simp only[↓zP,zG,seval];refine bT ?_;refine bG [] (fun i _ H'=>H'=H1/\∀a k (ha:a<i) (hl:a<ps.length) (hk:k<a),lX ps[a].2 (ps[k]'(Cg hk hl)).2=true) 0 ps.length (Bb _) (by omega) (by decide) ?_ ?_ ?_ ?_ ?_
 · simp only[zB,seval]
 · exact⟨rfl,fun a k ha=>absurd ha (Ax _)⟩
 · rintro i f2 H2 h0 hi dA e2 ⟨rfl,_⟩;have u1:f2 1=.ref 0 0:=by rw[dA 1 rfl];simp only[zB,seval];exact f1
   simp only[↓zP,zJ,seval,e2,u1,g0,bl,zi,GG];exact tB (by omega)
 · rintro i f2 H2 h0 hi dA e2 ⟨rfl,hJ2⟩;have u1:f2 1=.ref 0 0:=by rw[dA 1 rfl];simp only[zB,seval];exact f1
   have hg:(jF ps).getD i []=[ps[i].1]:=dT hi;obtain⟨sR,nJ,SU⟩:=PF i hi
   have ou:(∀k (hk:k<i),lX ps[i].2 (ps[k]'(Cg hk hi)).2=true)->∀a k (ha:a<i+1) (hl:a<ps.length) (hk:k<a),lX ps[a].2 (ps[k]'(Cg hk hl)).2=true:=fun h a k ha hl hk=>by
    by_cases e:a=i
    · subst e;exact h k hk
    exact hJ2 a k (by omega) hl hk
   have hov:∀k (hk:k<i),lX ps[i].2 (ps[k]'(Cg hk hi)).2=false->uP (ps.map (·.2))=150:=fun k hk h=>by have :=GO (ls:=ps.map (·.2)) (i:=i) (k:=k) (by rw[wO];exact hi) hk (by rw[Co,Co];exact h);rw[hR,this];rfl
   rw[nJ] at hg;refine aH ?_;refine bS ?_;simp only[↓zP,zG,seval];refine bT ?_;refine bG [] (fun k vs H'=>H'=H2/\∀a (ha:a<k) (hl:a<i),lX ps[i].2 (ps[a]'(Cg hl hi)).2=true) 0 i (Bb _) (by omega) (by decide) ?_ ?_ ?_ ?_ ?_
   · simp only[zB,seval]
   · exact⟨rfl,fun a ha=>absurd ha (Ax _)⟩
   · rintro k f3 H3 h0 ZS kR e3 _;have w5:f3 5=.int .i64 i:=(by rw[kR 5 rfl];simp only[zB,seval];exact e2);simp only[↓zP,zG,seval,e3,w5];exact tB (by omega)
   · rintro k f3 H3 h0 ZS kR e3 ⟨rfl,hJ3⟩;have w1:f3 1=.ref 0 0:=(by rw[kR 1 rfl];simp only[zB,seval];exact u1);have w5:f3 5=.int .i64 i:=(by rw[kR 5 rfl];simp only[zB,seval];exact e2);have yG:=Cg ZS hi;obtain⟨Nd,uY,hw3⟩:=PF k yG;have WX:(jF ps).getD k []=[ps[k].1]:=dT yG;rw[uY] at WX;have hd:=Ug (ta:=0) (tb:=0) rfl rfl Nd sR hw3 SU
     have aRi:lX ps[i].2 ps[k].2=true->∀a (ha:a<k+1) (hl:a<i),lX ps[i].2 (ps[a]'(Cg hl hi)).2=true:=fun h a ha hl=>by
      by_cases e:a=k
      · subst e;exact h
      exact hJ3 a (by omega) hl
     have aSc:=hov k ZS;rw[nf] at hd;generalize ps[k]=q at *;generalize bFt:ps[i]=p at *;refine aH ?_;refine bS ?_;refine Dz ?_;simp only[↓zP,zJ,seval,zD,w1,w5,e3,g0,bl,zi,aB,GG,hi,yG,hg,WX];refine eT (hd _) ?_;simp only[↓zP,zJ,seval,zD];refine bT ?_
     cases hdb:lX p.2 q.2 with
     |true=>simp only[↓zP,zJ,seval];exact⟨trivial,aRi hdb⟩
     |false=>simp only[↓zP,zJ,seval];refine Rx ?_;rw[aSc hdb];rfl
   rintro f3 H3 kR ⟨rfl,hJ3⟩;simp only[↓zP,seval];exact⟨trivial,ou fun k hk=>hJ3 k hk hk⟩
 rintro f2 H2 dA ⟨rfl,hJ2⟩
 have :=CC (ls:=ps.map (·.2)) (fun a k ha hk=>by
  rw[Co,Co]
  exact hJ2 a k (by rwa [wO] at ha) (by rwa [wO] at ha) hk)
 simp only[↓zP,seval];apply hK;clear hK K;simp only[↓zP,zG,seval];refine Rx ?_;rw[hR,this];rfl
theorem aw {name:List UInt8} (mC:name.length<2^63) (m0 m1 r0 r1:Int) (H:aA):
 Sg 18 [.agg (bX name .aS m0 m1 r0 r1)] H (.ret (.int .i64 (kS name [] m0 m1 r0 r1))) H:=by
 refine So aZj (by simp only[sf,bX]) ?_ H;unfold W18;dsimp only;refine bS ?_;simp only[↓zP,zJ,seval,bX];refine bT ?_;have qc:=XZ name mC;have d1:decide ((0:Int)<1)=true:=rfl;refine bS ?_;simp only[↓zP,zJ,seval];refine bK (qc _) ?_
 cases hv:mJ name with
 |false=>simp only[↓zP,zJ,seval];refine Rx ?_;unfold kS;rw[if_pos hv];rfl
 |true=>
 simp only[↓zP,zJ,seval];refine bT ?_;refine aJ fun K hK=>?_;simp only[↓zP,zJ,seval,Gp];refine Rx ?_;unfold kS;rw[if_neg (by rw[hv];decide),if_pos (.inl (by decide))];rfl
theorem Sw {name:List UInt8} (mC:name.length<2^63) {pv:AV} {ps:List (AV×List aG.V)} (JB:vU pv ps) (oZ:∀p∈ps,mP p) (hlen:∀p∈ps,p.2.length<2^30) (nP:ps.length<2^30) (m0 m1 r0 r1:Int) (H:aA):
 Sg 18 [.agg (bX name pv m0 m1 r0 r1)] H (.ret (.int .i64 (kS name (ps.map (·.2)) m0 m1 r0 r1))) H:=by
 rcases JB with ⟨h1,h2⟩|h1
 · rw[h1,h2];exact aw mC m0 m1 r0 r1 H
 rw[h1];exact au mC oZ hlen nP m0 m1 r0 r1 H
def Oi (ls:List (List aG.V)):Bool:= !(ls.any fun l=>decide (10<l.length))&&decide (ls.length<=3)
theorem aDm {name:List UInt8} {ps:List (AV×List aG.V)} (oZ:∀p∈ps,mP p) (nP:ps.length<2^63) (m0 m1 r0 r1:Int) (H:aA):
 Sg 21 [.agg (bX name (.aV 0 1 (jF ps)) m0 m1 r0 r1)] H (.ret (.bool (Oi (ps.map (·.2))))) H:=by
 have DI:bU [AV.agg (bX name (.aV 0 1 (jF ps)) m0 m1 r0 r1)]=true:=by simp only[sf,bX,CG oZ]
 refine So bAh DI ?_ H;unfold W21;dsimp only;have GG:(jF ps).length=ps.length:=Ad _;refine bS ?_;simp only[↓zP,zJ,seval,bX];refine bT ?_;generalize hX:(aA.mk 0 .nil).alloc _=HA;have g0:HA.get 0=some (.cells [.str name,.aV 0 1 (jF ps),.int .i64 m0,.int .i64 m1,.int .i64 r0,.int .i64 r1] false):=by subst hX;simp only[zI,seval]
 clear hX;generalize Ot:[AV.str name,.aV 0 1 (jF ps),.int .i64 m0,.int .i64 m1,.int .i64 r0,.int .i64 r1]=bc at *;have zi:bc.getD 1 aD=.aV 0 1 (jF ps):=by subst Ot;rfl
 have bl:bc.length=6:=by subst Ot;rfl
 refine aJ fun K hK=>?_;refine bS ?_;simp only[↓zP,zG,seval];refine bT ?_;refine bG [] (fun i _ H'=>H'=HA/\∀j (hj:j<i) (hl:j<ps.length),¬10<ps[j].2.length) 0 ps.length (Bb _) (by omega) (by decide) ?_ ?_ ?_ ?_ ?_
 · simp only[zB,seval]
 · exact⟨rfl,fun j hj=>absurd hj (Ax _)⟩
 · rintro i f H1 h0 hi hk e1 ⟨rfl,_⟩;have f1:f 1=.ref 0 0:=hk 1 rfl;simp only[↓zP,zJ,seval,e1,f1,g0,bl,zi,GG];exact tB (by omega)
 · rintro i f H1 h0 hi hk e1 ⟨rfl,hJ⟩;have f1:f 1=.ref 0 0:=hk 1 rfl;have hg:(jF ps).getD i []=[ps[i].1]:=dT hi;have hp:=oZ _ (Ai hi)
   have GC:10<ps[i].2.length->Oi (ps.map (·.2))=false:=fun h=>by unfold Oi;rw[show((ps.map (·.2)).any fun l=>decide (10<l.length))=true from Cz.2 ⟨ps[i].2,Bf.2 ⟨_,Ai hi,rfl⟩,Al h⟩];rfl
   have ou:¬10<ps[i].2.length->∀j (hj:j<i+1) (hl:j<ps.length),¬10<ps[j].2.length:=fun h j hj hl=>by
    by_cases e:j=i
    · subst e;exact h
    exact hJ j (by omega) hl
   generalize ps[i]=p at *;obtain⟨pv,l⟩:=p;simp only at hg hp GC ou;have dd:decide ((l.length:Int)>10)=decide (10<l.length):=(by rw[Az];omega);refine aH ?_;refine aJ fun K2 cK=>?_
   rcases hp with ⟨h1,h2⟩|h1
   · simp only at h1 h2;subst h1;subst h2;simp only[↓zP,zJ,seval,e1,f1,g0,bl,zi,aB,GG,hi,hg];have d0:decide ((0:Int)>10)=false:=rfl;apply cK;clear cK K2;simp only[↓zP,zG,seval,Fm];exact⟨trivial,ou (by decide)⟩
   simp only at h1;subst h1;by_cases h10:10<l.length
   · rw[Al h10] at dd;simp only[↓zP,zJ,seval,e1,f1,g0,bl,zi,aB,GG,hi,hg,aL,dd];apply cK;clear cK K2;simp only[↓zP,zG,seval];refine Rx ?_;rw[GC h10];rfl
   rw[Ae h10] at dd;simp only[↓zP,zJ,seval,e1,f1,g0,bl,zi,aB,GG,hi,hg,aL,dd];apply cK;clear cK K2;simp only[↓zP,zG,seval];exact⟨trivial,ou h10⟩
 rintro f H1 hk ⟨rfl,hJ⟩;have f1:f 1=.ref 0 0:=hk 1 rfl;simp only[↓zP,seval];apply hK;clear hK K;have dd:decide ((ps.length:Int)<=3)=decide (ps.length<=3):=by rw[Az];omega
 simp only[↓zP,zJ,seval,f1,g0,bl,zi,GG,dd];refine Rx ?_;unfold Oi
 rw[show((ps.map (·.2)).any fun l=>decide (10<l.length))=false from by
  rw[Fo];intro l hl;obtain⟨p,hp,rfl⟩:=Bf.1 hl;obtain⟨j,hj,rfl⟩:=Cv hp
  rw[Ae (hJ j hj hj)];decide,Ad]
 rfl
theorem aDn {name:List UInt8} (m0 m1 r0 r1:Int) (H:aA):
 Sg 21 [.agg (bX name .aS m0 m1 r0 r1)] H (.ret (.bool (Oi []))) H:=by
 refine So bAh (by simp only[sf,bX]) ?_ H;unfold W21;dsimp only;refine bS ?_;simp only[↓zP,zJ,seval,bX];refine bT ?_;generalize hX:(aA.mk 0 .nil).alloc _=HA;have g0:HA.get 0=some (.cells [.str name,.aS,.int .i64 m0,.int .i64 m1,.int .i64 r0,.int .i64 r1] false):=by subst hX;simp only[zI,seval]
 clear hX;refine aJ fun K hK=>?_;refine bS ?_;simp only[↓zP,zG,seval];refine bT ?_;refine bG [] (fun i _ H'=>H'=HA) 0 0 (Bb _) (by omega) (by decide) ?_ ?_ ?_ ?_ ?_
 · simp only[zB,seval]
 · rfl
 · rintro i f H1 h0 hi hk e1 rfl;have f1:f 1=.ref 0 0:=hk 1 rfl;simp only[↓zP,zJ,seval,e1,f1,g0];exact tB (by omega)
 · rintro i f H1 h0 hi hk;exact absurd hi (Ax _)
 rintro f H1 hk rfl;have f1:f 1=.ref 0 0:=hk 1 rfl;have d0:decide ((0:Int)<=3)=true:=rfl;simp only[↓zP,seval];apply hK;clear hK K;simp only[↓zP,zJ,seval,f1,g0];refine Rx ?_;rfl
theorem aJi {name:List UInt8} {pv:AV} {ps:List (AV×List aG.V)} (JB:vU pv ps) (oZ:∀p∈ps,mP p) (nP:ps.length<2^63) (m0 m1 r0 r1:Int) (H:aA):
 Sg 21 [.agg (bX name pv m0 m1 r0 r1)] H (.ret (.bool (Oi (ps.map (·.2))))) H:=by
 rcases JB with ⟨h1,h2⟩|h1
 · rw[h1,h2];exact aDn m0 m1 r0 r1 H
 rw[h1];exact aDm oZ nP m0 m1 r0 r1 H
end Go.Proofs.YtbndcmnnbiiobaaGreatDoor
namespace Go.Proofs.YtbndcmnnbiiobaaGreatDoor
open Go Go.Av Go.mO
def aQx:AV->Option Nat
 |.int .u32 n=>match Nat.blt n.natAbs W&&decide ((n.natAbs:Int)=n) with
  |true=>some n.natAbs
  |false=>none
 |_=>none
theorem aGu {x:AV} {a:Nat} (h:aQx x=some a):x=.int .u32 (a:Nat)/\a<W:=by
 unfold aQx at h;split at h
 · split at h
   · rename_i n hc;cases h;simp only[Am,Bh] at hc;exact⟨by rw[hc.2],by simpa using hc.1⟩
   cases h
 cases h
def aGt:List AV->Option (List Nat)
 |[]=>some []
 |x::r=>match aQx x,aGt r with
  |some a,some l=>some (a::l)
  |_,_=>none
theorem eh:∀{v:List AV} {l:List Nat},aGt v=some l->v=wC l/\∀d∈l,d<W
 |[],l,h=>by cases h;exact⟨rfl,fun d hd=>by cases hd⟩
 |x::r,l,h=>by
  simp only[aGt] at h;split at h
  · rename_i a l' ha oS;cases h;obtain⟨h1,h2⟩:=eh oS;obtain⟨h3,h4⟩:=aGu ha;refine⟨by rw[h1,h3];rfl,fun d hd=>?_⟩
    rcases Aq.1 hd with rfl|hd
    · exact h4
    exact h2 d hd
  cases h
def Od:List AV->Option (Option Int)
 |.bool b::.bool n::r=>match aGt r with
  |some l=>match Nat.beq l.length 16 with
   |true=>some (RZ b n l)
   |false=>none
  |none=>none
 |_=>none
theorem tF {v:List AV} {x:Option Int} (h:Od v=some x):fZ v x:=by
 unfold Od at h;split at h
 · rename_i b n r;split at h
   · rename_i l hl;split at h
     · rename_i hc;cases h;obtain⟨h1,h2⟩:=eh hl;exact⟨b,n,l,⟨Bg hc,h2⟩,by rw[h1],rfl⟩
     cases h
   cases h
 cases h
def ru (g:Option Int->AV):List AV->Option AV
 |[.agg a]=>match Od a with
  |some x=>some (g x)
  |none=>none
 |_=>none
def rv (g:Option Int->Option Int->AV):List AV->Option AV
 |[.agg a,.agg b]=>match Od a,Od b with
  |some x,some y=>some (g x y)
  |_,_=>none
 |_=>none
theorem Nn {g:Option Int->AV} {f:FuncId} (hS:∀a x,fZ a x->∀H,Sg f [.agg a] H (.ret (g x)) H) {args:List AV} {v:AV} (h:ru g args=some v) (H:aA):Sg f args H (.ret v) H:=by
 unfold ru at h;split at h
 · rename_i a;split at h
   · rename_i x hx;cases h;exact hS a x (tF hx) H
   cases h
 cases h
theorem No {g:Option Int->Option Int->AV} {f:FuncId} (hS:∀a b x y,fZ a x->fZ b y->∀H,Sg f [.agg a,.agg b] H (.ret (g x y)) H) {args:List AV} {v:AV} (h:rv g args=some v) (H:aA):Sg f args H (.ret v) H:=by
 unfold rv at h;split at h
 · rename_i a b;split at h
   · rename_i x y hx hy;cases h;exact hS a b x y (tF hx) (tF hy) H
   cases h
 cases h
def aDd:List AV->Option AV
 |[.int .i64 z]=>match decide (-2^63<=z)&&decide (z<2^63) with
  |true=>some (.agg (cI z))
  |false=>none
 |_=>none
theorem aDe {args:List AV} {v:AV} (h:aDd args=some v) (H:aA):Sg 27 args H (.ret v) H:=by
 unfold aDd at h;split at h
 · rename_i z;split at h
   · rename_i hc;cases h;simp only[Am,Bh] at hc;exact wT hc.1 hc.2 H
   cases h
 cases h
def aUr (f:FuncId) (args:List AV):Option AV:=
 match Nat.beq f 27 with
 |true=>aDd args
 |false=>match Nat.beq f 57 with
 |true=>rv (fun x y=>.agg (cO (IB x y))) args
 |false=>match Nat.beq f 121 with
 |true=>rv (fun x y=>.agg (cO (IB x (RS y)))) args
 |false=>match Nat.beq f 79 with
 |true=>rv (fun x y=>.agg (cO (GL x y))) args
 |false=>match Nat.beq f 104 with
 |true=>ru (fun x=>.agg (cO (RS x))) args
 |false=>match Nat.beq f 166 with
 |true=>ru (fun x=>.agg (cO (aVp x))) args
 |false=>match Nat.beq f 123 with
 |true=>ru (fun x=>.int .i64 (AH x)) args
 |false=>match Nat.beq f 69 with
 |true=>rv (fun x y=>.int .i64 (iH x y)) args
 |false=>match Nat.beq f 38 with
 |true=>ru (fun x=>.gP [.int .i64 (eN x).1,.bool (eN x).2]) args
 |false=>none
theorem aIt {f:FuncId} {args:List AV} {v:AV} (h:aUr f args=some v) (H:aA):Sg f args H (.ret v) H:=by
 unfold aUr at h;split at h
 · rename_i hf;obtain rfl:=Bg hf;exact aDe h H
 split at h
 · rename_i hf;obtain rfl:=Bg hf;exact No (fun a b x y ha hb H=>TK ha hb H) h H
 split at h
 · rename_i hf;obtain rfl:=Bg hf;exact No (fun a b x y ha hb H=>yj ha hb H) h H
 split at h
 · rename_i hf;obtain rfl:=Bg hf;exact No (fun a b x y ha hb H=>OA ha hb H) h H
 split at h
 · rename_i hf;obtain rfl:=Bg hf;exact Nn (fun a x ha H=>YT ha H) h H
 split at h
 · rename_i hf;obtain rfl:=Bg hf;exact Nn (fun a x ha H=>aMl ha H) h H
 split at h
 · rename_i hf;obtain rfl:=Bg hf;exact Nn (fun a x ha H=>NZ ha H) h H
 split at h
 · rename_i hf;obtain rfl:=Bg hf;exact No (fun a b x y ha hb H=>KX ha hb H) h H
 split at h
 · rename_i hf;obtain rfl:=Bg hf;exact Nn (fun a x ha H=>AT ha H) h H
 cases h
end Go.Proofs.YtbndcmnnbiiobaaGreatDoor
namespace Go.Proofs.YtbndcmnnbiiobaaGreatDoor
open Go Go.Av
def qX:List AV:=[1,10,100,1000,10000,100000,1000000,10000000,100000000,1000000000,10000000000,100000000000,1000000000000,10000000000000,100000000000000,1000000000000000,10000000000000000,100000000000000000,1000000000000000000,10000000000000000000].map (AV.int .u64)
def Oq (n:Nat):Option (List AV):=match Nat.beq n 3 with
 |true=>some qX
 |false=>match Nat.beq n 999999999 with
  |true=>some []
  |false=>none
def hU:bB:=mkG Tryz.prog Oq
abbrev St (f:FuncId) (args:List AV) (H:aA) (out:Out) (H':aA):Prop:=Sound Tryz.prog hU f args H out H'
theorem sN:Fit Tryz.prog hU:=ja (by kernel_rfl)
theorem gY:HT hU:=fun n cs h=>by
 have h:Oq n=some cs:=h;unfold Oq at h;split at h
 · cases h;rfl
 split at h
 · cases h;rfl
 cases h
theorem moT:hU.mo=false:=rfl
theorem toT {f:FuncId} {args:List AV} {v:AV} (ha:bU args=true) (hv:v.free=true) (h:∀H,Sg f args H (.ret v) H) (H:aA):Sound Tryz.prog hU f args H (.ret v) H:=
 (Sound.up (g:=gv) (g':=hU) (fun n cs h=>by cases h) rfl moT (h ⟨0,.nil⟩)).frame gY ha (tk:=none) (fun k hk=>by cases hk) (n:=0) H (oV hv)
theorem aVn {K:List Fact} (h:uA Tryz.prog gv K) (hf:(K.all fun e=>bU e.2.1&&e.2.2.free)=true):uA Tryz.prog hU K:=fun e he H=>by have :=Ba.1 hf e he;rw[Am] at this;exact toT this.1 this.2 (h e he) H
attribute [local congr] aU aO aP aN aY aR aQ aI aZ
attribute [local irreducible] FC bL eU
def aVt (fn:Go.Func):Code:=fn.body.getD .skip
def RPw:{x // Yb Tryz.prog hU false (aVt Tryz.f10)=some x}:=by
 apply Subtype.mk
 conv=>lhs;cbv
theorem bBy:xy Tryz.prog hU false 10 9 RPw.1.1 RPw.1.2.1 RPw.1.2.2:=⟨Tryz.f10,_,Tryz.func10,rfl,by kernel_rfl,RPw.2,by kernel_rfl,by kernel_rfl⟩
theorem Sn (args:List AV) (ha:args.length=2) (H:aA):AU Tryz.prog hU 10 args none H H:=by refine HY sN bBy (by omega) ?_;show bL Tryz.prog hU 9 [⟨(some 2),.Ni (.tmp 3),none⟩] (jG (dW args) 3 .pW) [] H (gC (fun f ds H'=>FC Tryz.prog hU 9 RPw.1.2.2 f ds H' _) _);unfold RPw;dsimp only;have n1:BS .ifc .pW=some true:=rfl;simp only[↓zP,zJ,seval,n1,Bool.or_true,Ds,Fx,Lj]
end Go.Proofs.YtbndcmnnbiiobaaGreatDoor
namespace Go.Proofs.YtbndcmnnbiiobaaGreatDoor
open Go Go.Av Go.mO
attribute [local congr] aU aO aP aN aY aR aQ aI aZ
attribute [local irreducible] FC bL eU
def FV (x y:Int):Int×Int:=if(!decide (x.tmod y=0)&&(decide (x.tmod y<0) != decide (y<0)))=true then(x.tdiv y -1,x.tmod y+y) else(x.tdiv y,x.tmod y)
theorem tdiv_le (x y:Int):(x.tdiv y).natAbs<=x.natAbs:=by rw[Int.natAbs_tdiv];exact Jl _ _
theorem aJx (x:Int) {y:Int} (h:y≠0):(x.tmod y).natAbs<y.natAbs:=by rw[Int.natAbs_tmod];exact De _ (by omega)
theorem EM {a b:List AV} {x y:Int} (ha:fZ a (some x)) (hb:fZ b (some y)) (YJ: -2^63<x) (hx1:x<2^63) (SV: -2^63<y) (hy1:y<2^63) (hy:y≠0) (H:aA):
 Sg 164 [.agg a,.agg b] H (.ret (.gP [.agg (cI (FV x y).1),.agg (cI (FV x y).2)])) H:=by
 refine Sp aZe (by simp only[sf,ha.free,hb.free]) (by simp only[sf,cH]) ?_ H;unfold aOl;dsimp only;have hg:=BK ha hb;have hs:=NZ hb;have h1:=AT ha;have h2:=AT hb;have e1:eN (some x)=(x,true):=by simp only[eN];rw[if_pos (by omega)]
 have e2:eN (some y)=(y,true):=by simp only[eN];rw[if_pos (by omega)]
 rw[e1] at h1;rw[e2] at h2
 have hsg:(AH (some y)==0)=false:=by simp only[AH];split<;>(try split)<;>first|rfl|omega
 have hq:=tdiv_le x y;have hr:=aJx x hy;have wq:IntKind.i64.wrap (x.tdiv y)=x.tdiv y:=wrap_i64 (by omega) (by omega);have wr:IntKind.i64.wrap (x.tmod y)=x.tmod y:=wrap_i64 (by omega) (by omega);have la:=ha.len;have lb:=hb.len;have nx:(x != -9223372036854775808)=true:=El.2 (by omega);have ny:(y != -9223372036854775808)=true:=El.2 (by omega);refine bS ?_;simp only[↓zP,zJ,seval];refine bT ?_;have yF:(AV.bool false::AV.bool false::wC zs).length=18:=by simp[cM];rfl
 have fS:∀z,(cI z).length=18:=fun z=>dE z;generalize hX:((((aA.mk 0 .nil).alloc _).alloc _).alloc _).alloc _=HA;have g0:HA.get 0=some (.cells a false):=by subst hX;simp only[zI,seval]
 have g1:HA.get 1=some (.cells b false):=by subst hX;simp only[zI,seval]
 have g2:HA.get 2=some (.cells (AV.bool false::AV.bool false::wC zs) false):=by subst hX;simp only[zI,seval]
 have g3:HA.get 3=some (.cells (AV.bool false::AV.bool false::wC zs) false):=by subst hX;simp only[zI,seval]
 clear hX;refine bS ?_;simp only[↓zP,zJ,seval,g0,g1,oL la,oL lb];refine bK (hg _) ?_;simp only[↓zP,zJ,seval,g1,oL lb,Bd,Ds];refine bK (hs _) ?_;simp only[↓zP,zG,seval,hsg];refine bT ?_;refine aJ fun K hK=>?_;refine bS ?_;simp only[↓zP,zJ,seval,g0,oL la];refine bK (h1 _) ?_;simp only[↓zP,zJ,seval];refine bT ?_;clear hK;refine tC fun f hf=>?_;have f3:f 3=.ref 1 0:=by subst hf;simp only[zB,seval]
 have f4:f 4=.ref 2 0:=by subst hf;simp only[zB,seval]
 have f5:f 5=.ref 3 0:=by subst hf;simp only[zB,seval]
 have f6:f 6=.int .i64 x:=by subst hf;simp only[zB,seval]
 have f7:f 7=.bool true:=by subst hf;simp only[zB,seval]
 clear hf;refine bS ?_;simp only[↓zP,zG,seval,f6,f7,nx];refine bT ?_;simp only[↓zP,zJ,seval,f3,g1,oL lb];refine bK (h2 _) ?_;simp only[↓zP,zJ,seval,ny];refine tC fun f' hf=>?_;have VE:f' 4=.ref 2 0:=by subst hf;simp only[zB,seval];exact f4
 have ZC:f' 5=.ref 3 0:=by subst hf;simp only[zB,seval];exact f5
 have f6':f' 6=.int .i64 x:=by subst hf;simp only[zB,seval];exact f6
 have f8':f' 8=.int .i64 y:=by subst hf;simp only[zB,seval]
 clear hf f3 f4 f5 f6 f7;refine Dz ?_
 have fx:FV x y=if(!decide (x.tmod y=0)&&(decide (x.tmod y<0) != decide (y<0)))=true then(x.tdiv y -1,x.tmod y+y) else(x.tdiv y,x.tmod y):=rfl
 have oq:=wT (z:=x.tdiv y) (by omega) (by omega);have or:=wT (z:=x.tmod y) (by omega) (by omega);have oq1:∀H,Sg 27 [.int .i64 (x.tdiv y -1)] H (.ret (.agg (cI (x.tdiv y -1)))) H:=wT (by omega) (by omega);have wq1:IntKind.i64.wrap (x.tdiv y -1)=x.tdiv y -1:=wrap_i64 (by omega) (by omega);by_cases c0:x.tmod y=0
 · have hn:(x.tmod y != 0)=false:=by simp[c0]
   rw[Al c0] at fx;simp only[↓zP,zJ,seval,zD,f6',f8',hy,wq,hn];refine bK (oq _) ?_;simp only[↓zP,zG,seval];refine bK (or _) ?_;simp only[↓zP,zJ,seval,VE,ZC,g2,g3,fS,yF,oL yF];refine⟨rfl,_,by simp only[↓zP,zR,seval,VE,ZC,fS,oL (fS _)];rfl,?_⟩;rw[fx];rfl
 have hn:(x.tmod y != 0)=true:=El.2 c0;rw[Ae c0] at fx;by_cases cA:x.tmod y<0
 · have hA:=Al cA;rw[hA] at fx;by_cases cB:y<0
   · have hB:=Al cB;rw[hB] at fx;simp only[↓zP,zJ,seval,zD,f6',f8',hy,wq,hn,hA,hB];refine bK (oq _) ?_;simp only[↓zP,zG,seval];refine bK (or _) ?_;simp only[↓zP,zJ,seval,VE,ZC,g2,g3,fS,yF,oL yF];refine⟨rfl,_,by simp only[↓zP,zR,seval,VE,ZC,fS,oL (fS _)];rfl,?_⟩;rw[fx];rfl
   have hB:=Ae cB;rw[hB] at fx;have or1:∀H,Sg 27 [.int .i64 (x.tmod y+y)] H (.ret (.agg (cI (x.tmod y+y)))) H:=wT (by omega) (by omega);have wr1:IntKind.i64.wrap (x.tmod y+y)=x.tmod y+y:=wrap_i64 (by omega) (by omega);simp only[↓zP,zJ,seval,zD,f6',f8',hy,wq,hn,hA,hB,wq1,wr1];refine bK (oq1 _) ?_;simp only[↓zP,zG,seval];refine bK (or1 _) ?_;simp only[↓zP,zJ,seval,VE,ZC,g2,g3,fS,yF,oL yF];refine⟨rfl,_,by simp only[↓zP,zR,seval,VE,ZC,fS,oL (fS _)];rfl,?_⟩;rw[fx];rfl
 have hA:=Ae cA;rw[hA] at fx;by_cases cB:y<0
 · have hB:=Al cB;rw[hB] at fx;have or1:∀H,Sg 27 [.int .i64 (x.tmod y+y)] H (.ret (.agg (cI (x.tmod y+y)))) H:=wT (by omega) (by omega);have wr1:IntKind.i64.wrap (x.tmod y+y)=x.tmod y+y:=wrap_i64 (by omega) (by omega);simp only[↓zP,zJ,seval,zD,f6',f8',hy,wq,hn,hA,hB,wq1,wr1];refine bK (oq1 _) ?_;simp only[↓zP,zG,seval];refine bK (or1 _) ?_;simp only[↓zP,zJ,seval,VE,ZC,g2,g3,fS,yF,oL yF];refine⟨rfl,_,by simp only[↓zP,zR,seval,VE,ZC,fS,oL (fS _)];rfl,?_⟩;rw[fx];rfl
 have hB:=Ae cB;rw[hB] at fx;simp only[↓zP,zJ,seval,zD,f6',f8',hy,wq,hn,hA,hB];refine bK (oq _) ?_;simp only[↓zP,zG,seval];refine bK (or _) ?_;simp only[↓zP,zJ,seval,VE,ZC,g2,g3,fS,yF,oL yF];refine⟨rfl,_,by simp only[↓zP,zR,seval,VE,ZC,fS,oL (fS _)];rfl,?_⟩;rw[fx];rfl
theorem LH {a b:List AV} {x y:Int} (ha:fZ a (some x)) (hb:fZ b (some y)) (YJ: -2^63<x) (hx1:x<2^63) (SV: -2^63<y) (hy1:y<2^63) (hy:y≠0) (H:aA):
 Sg 125 [.agg a,.agg b] H (.ret (.agg (cI (FV x y).1))) H:=by
 refine Sp aYf (by simp only[sf,ha.free,hb.free]) (by simp only[sf,cH]) ?_ H;unfold aNn;dsimp only;have hd:=EM ha hb YJ hx1 SV hy1 hy;have la:=ha.len;have lb:=hb.len;have yF:(AV.bool false::AV.bool false::wC zs).length=18:=by simp[cM];rfl
 have fS:∀z,(cI z).length=18:=fun z=>dE z;generalize FV x y=d at *;refine bS ?_;simp only[↓zP,zJ,seval];refine bT ?_;simp only[↓zP,zJ,seval,oL la,oL lb];refine bK (hd _) ?_;simp only[↓zP,zJ,seval,fS,yF,oL yF,oL (fS _)];refine⟨rfl,_,by simp only[↓zP,zR,seval,fS,oL (fS _)];rfl,?_⟩;rfl
theorem ky {a b:List AV} {x y:Int} (ha:fZ a (some x)) (hb:fZ b (some y)) (YJ: -2^63<x) (hx1:x<2^63) (SV: -2^63<y) (hy1:y<2^63) (hy:y≠0) (H:aA):
 Sg 120 [.agg a,.agg b] H (.ret (.agg (cI (FV x y).2))) H:=by
 refine Sp aYa (by simp only[sf,ha.free,hb.free]) (by simp only[sf,cH]) ?_ H;unfold aNi;dsimp only;have hd:=EM ha hb YJ hx1 SV hy1 hy;have la:=ha.len;have lb:=hb.len;have yF:(AV.bool false::AV.bool false::wC zs).length=18:=by simp[cM];rfl
 have fS:∀z,(cI z).length=18:=fun z=>dE z;generalize FV x y=d at *;refine bS ?_;simp only[↓zP,zJ,seval];refine bT ?_;simp only[↓zP,zJ,seval,oL la,oL lb];refine bK (hd _) ?_;simp only[↓zP,zJ,seval,fS,yF,oL yF,oL (fS _)];refine⟨rfl,_,by simp only[↓zP,zR,seval,fS,oL (fS _)];rfl,?_⟩;rfl
def Us (x y:Int):Bool:=decide (-2^63<x)&&decide (x<2^63)&&decide (-2^63<y)&&decide (y<2^63)&& !decide (y=0)
def aIq (g:Int×Int->AV):List AV->Option AV
 |[.agg a,.agg b]=>match Od a,Od b with
  |some (some x),some (some y)=>match Us x y with
   |true=>some (g (FV x y))
   |false=>none
  |_,_=>none
 |_=>none
theorem jk {g:Int×Int->AV} {f:FuncId} (hS:∀a b x y,fZ a (some x)->fZ b (some y)->-2^63<x->x<2^63->-2^63<y->y<2^63->y≠0->∀H,Sg f [.agg a,.agg b] H (.ret (g (FV x y))) H) {args:List AV} {v:AV} (h:aIq g args=some v) (H:aA):Sg f args H (.ret v) H:=by
 unfold aIq at h;split at h
 · rename_i a b;split at h
   · rename_i x y hx hy;split at h
     · rename_i hc;cases h;simp only[Us,Am,Ct,Bh,Cc] at hc;obtain⟨⟨⟨⟨c1,c2⟩,c3⟩,c4⟩,c5⟩:=hc;exact hS a b x y (tF hx) (tF hy) c1 c2 c3 c4 c5 H
     cases h
   cases h
 cases h
def aIs (f:FuncId) (args:List AV):Option AV:=
 match Nat.beq f 125 with
 |true=>aIq (fun d=>.agg (cI d.1)) args
 |false=>match Nat.beq f 120 with
 |true=>aIq (fun d=>.agg (cI d.2)) args
 |false=>aUr f args
theorem jl {f:FuncId} {args:List AV} {v:AV} (h:aIs f args=some v) (H:aA):Sg f args H (.ret v) H:=by
 unfold aIs at h;split at h
 · rename_i hf;obtain rfl:=Bg hf;exact jk (fun a b x y ha hb h1 h2 h3 h4 h5 H=>LH ha hb h1 h2 h3 h4 h5 H) h H
 split at h
 · rename_i hf;obtain rfl:=Bg hf;exact jk (fun a b x y ha hb h1 h2 h3 h4 h5 H=>ky ha hb h1 h2 h3 h4 h5 H) h H
 exact aIt h H
theorem Xt {z:Int} (h:z.natAbs<2^64):bA z.natAbs 1*4294967296+bA z.natAbs 0=z.natAbs:=by
 have hW:W=4294967296:=rfl;have h2:bA z.natAbs 0=z.natAbs%W:=by simp[bA]
 have h3:bA z.natAbs 1=z.natAbs / W:=by unfold bA;rw[Nat.pow_one,hW,Cn (by omega)]
 rw[h2,h3,Da];exact Fh _ _
theorem aEp {a:Nat} (h:a<2^64):sz a<=2:=by
 rcases Nt 16 a with h0|h0
 · unfold sz;omega
 refine Nat.not_lt.1 fun h3=>h0 ?_;unfold sz at h3;unfold bA;have :W^2<=W^(j7 16 a -1):=Dq (by decide) (by omega);have hW:W^2=2^64:=rfl;rw[Eh (by omega)];rfl
theorem LA {a b:List AV} {x y:Int} (ha:fZ a (some x)) (hb:fZ b (some y)) (hx:x.natAbs<2^64) (hy:y.natAbs<2^64) (H:aA):
 Sg 124 [.agg a,.agg b] H (.ret (.agg (cI (Int.gcd x y)))) H:=by
 refine Sp aYe (by simp only[sf,ha.free,hb.free]) (by simp only[sf,cH]) ?_ H;unfold aNm;dsimp only;have hg:=BK ha hb;have s1:=KJ x.natAbs;have s2:=KJ y.natAbs;have la:=ha.len;have lb:=hb.len;obtain⟨rfl,hz⟩:=ha.some;obtain⟨rfl,hz'⟩:=hb.some;refine bS ?_;simp only[↓zP,zJ,Nat.reduceLT,Nat.reduceEqDiff,Nat.reduceAdd];refine fL ?_;simp only[↓zP,zJ,Nat.reduceLT,Nat.reduceEqDiff,Nat.reduceAdd,oL la,oL lb];refine bK (hg _) ?_;simp only[↓zP,zJ,Nat.reduceLT,Bd,Ds];refine bT ?_;have yF:(AV.bool false::AV.bool false::wC zs).length=18:=by simp[cM];rfl
 have fS:∀z,(cI z).length=18:=fun z=>dE z;generalize hX:(((aA.mk 0 .nil).alloc _).alloc _).alloc _=HA;have g0:HA.get 0=some (.cells (cI x) false):=by subst hX;simp only[zI,Nat.reduceAdd,Nat.reduceEqDiff]
 have g1:HA.get 1=some (.cells (cI y) false):=by subst hX;simp only[zI,Nat.reduceAdd,Nat.reduceEqDiff]
 have g2:HA.get 2=some (.cells (AV.bool false::AV.bool false::wC zs) false):=by subst hX;simp only[zI,Nat.reduceAdd,Nat.reduceEqDiff]
 clear hX;refine tC fun f hf=>?_;have f2:f 2=.ref 0 0:=by subst hf;simp only[zB,Nat.reduceEqDiff]
 have f3:f 3=.ref 1 0:=by subst hf;simp only[zB,Nat.reduceEqDiff]
 have f4:f 4=.ref 2 0:=by subst hf;simp only[zB,Nat.reduceEqDiff]
 clear hf;have lx:=iL (.aW x.natAbs);have ly:=iL (.aW y.natAbs);have dx:(cI x).drop 2=wC (aW 16 x.natAbs):=rfl;have dy:(cI y).drop 2=wC (aW 16 y.natAbs):=rfl;refine aJ fun K hK=>?_;simp only[↓zP,zJ,Nat.reduceLT,Nat.reduceEqDiff,Nat.reduceAdd,Nat.reduceLeDiff,f2,g0,oL la,dx,lx];refine bK (s1 _) ?_;have e1:decide (((sz x.natAbs:Nat):Int)<=2)=true:=Al (by have :=aEp hx;omega);have e2:decide (((sz y.natAbs:Nat):Int)<=2)=true:=Al (by have :=aEp hy;omega);simp only[↓zP,zJ,Nat.reduceLT,Nat.reduceEqDiff,Nat.reduceAdd,f3,g1,oL lb,dy,ly,e1];refine bK (s2 _) ?_;simp only[↓zP,zJ,Nat.reduceLT,Nat.reduceEqDiff,e2];refine Dz ?_;have h0:=gE x.natAbs 0;have h1:=gE x.natAbs 1;have k0:=gE y.natAbs 0;have k1:=gE y.natAbs 1;have hW:W=4294967296:=rfl;have p0:(cI x).getD 2 aD=.int .u32 (bA x.natAbs 0:Nat):=kJ (a:=x.natAbs) (i:=0) (by decide);have p1:(cI x).getD 3 aD=.int .u32 (bA x.natAbs 1:Nat):=kJ (a:=x.natAbs) (i:=1) (by decide);have q0:(cI y).getD 2 aD=.int .u32 (bA y.natAbs 0:Nat):=kJ (a:=y.natAbs) (i:=0) (by decide);have q1:(cI y).getD 3 aD=.int .u32 (bA y.natAbs 1:Nat):=kJ (a:=y.natAbs) (i:=1) (by decide);have w0:IntKind.u64.wrap ((bA x.natAbs 0:Nat):Int)=(bA x.natAbs 0:Nat):=qH (by omega) (.inl rfl);have w1:IntKind.u64.wrap ((bA x.natAbs 1:Nat):Int)=(bA x.natAbs 1:Nat):=qH (by omega) (.inl rfl);have v0:IntKind.u64.wrap ((bA y.natAbs 0:Nat):Int)=(bA y.natAbs 0:Nat):=qH (by omega) (.inl rfl);have v1:IntKind.u64.wrap ((bA y.natAbs 1:Nat):Int)=(bA y.natAbs 1:Nat):=qH (by omega) (.inl rfl);have ox:=aIp h1 h0;have oy:=aIp k1 k0;rw[Xt hx] at ox;rw[Xt hy] at oy;simp only[↓zP,zJ,Nat.reduceLT,Nat.reduceEqDiff,Nat.reduceAdd,zD,reduceCtorEq,Nat.reduceLeDiff,Int.reduceLT,f2,f3,g0,g1,oL la,oL lb,jI,p0,p1,q0,q1,w0,w1,v0,v1,ox,oy];refine tC fun f' hf=>?_;have VE:f' 4=.ref 2 0:=by subst hf;simp only[zB,Nat.reduceEqDiff];exact f4
 have f5:f' 5=.int .u64 (x.natAbs:Nat):=by subst hf;simp only[zB,Nat.reduceEqDiff]
 have f6:f' 6=.int .u64 (y.natAbs:Nat):=by subst hf;simp only[zB]
 clear hf f2 f3 f4;refine aH (fK [5,6] (fun m vs H'=>H'=HA/\∃a b:Nat,vs=[.int .u64 (a:Nat),.int .u64 (b:Nat)]/\a<2^64/\b<2^64/\m=b/\Nat.gcd a b=Nat.gcd x.natAbs y.natAbs) y.natAbs (by rfl) ?_ ?_)
 · exact⟨rfl,_,_,by simp only[sm,f5,f6],hx,hy,rfl,rfl⟩
 rintro b f H1 hk ⟨rfl,a,_,hv,hx1,hy1,rfl,hgc⟩;simp only[zM] at hv;obtain⟨h5,h6⟩:=hv;have f4:f 4=.ref 2 0:=by rw[hk 4 rfl];exact VE
 by_cases Tp:b=0
 · subst Tp;have e0:(((0:Nat):Int) != 0)=false:=rfl;have ea:a=Int.gcd x y:=by rw[Nat.gcd_zero_right] at hgc;exact hgc
   have l2:=SZ hx1;have hl:=TT.aW a;have q0:((a%W:Nat):Int)=(bA a 0:Nat):=(by simp[bA]);have q1:((a / W%W:Nat):Int)=(bA a 1:Nat):=(by simp[bA]);have ow:1<=(List.drop 1 (wC zs)).length:=(by decide);have hse:=oH (n:=false) (m:=a) (Cg hx1 (by decide)) (z:=(a:Int)) rfl;simp only[↓zP,zJ,Nat.reduceLT,Nat.reduceEqDiff,Nat.reduceAdd,Nat.reduceLeDiff,Int.reduceLT,h5,h6,e0,Uz,Oh,q0,q1,l2,ow];refine bK (hse _) ?_;simp only[↓zP,zJ,Nat.reduceEqDiff,f4,g2,fS,yF,oL yF];refine⟨rfl,_,by simp only[↓zP,zR,Nat.reduceEqDiff,f4,g2,fS,oL (fS _)];rfl,?_⟩;rw[ea];rfl
 have e0:(((b:Nat):Int) != 0)=true:=El.2 (by omega);have bEg:¬((b:Nat):Int)=0:=by omega
 simp only[↓zP,zJ,Nat.reduceLT,h6,e0];refine aH ?_;refine Dz ?_;simp only[↓zP,zJ,Nat.reduceLT,Nat.reduceEqDiff,Nat.reduceAdd,zD,reduceCtorEq,h5,h6,bEg];have ht:Int.tmod (a:Int) (b:Int)=((a%b:Nat):Int):=rfl;have eQ:a%b<b:=De _ (by omega);have hwm:IntKind.u64.wrap ((a%b:Nat):Int)=((a%b:Nat):Int):=qH (by omega) (.inl rfl);rw[ht];exact⟨_,eQ,b,a%b,rfl,hy1,by omega,rfl,by rw[Nat.gcd_comm,<-Nat.gcd_rec,Nat.gcd_comm,hgc]⟩
def cR (n d:Int):List AV:=cI n++cI d
theorem zm (n d:Int):(cR n d).length=36:=by rw[cR,An,dE,dE]
theorem aGj (n d:Int):(cR n d).take 18=cI n:=by rw[cR,Db (by rw[dE];decide)];exact(oL (dE n)).2.1
theorem aGi (n d:Int):(cR n d).drop 18=cI d:=by rw[cR,Jh (by rw[dE];decide),(oL (dE n)).2.2,Dk]
theorem dr (n d:Int):bU (cR n d)=true:=by rw[cR,mL,cH,cH];rfl
theorem DS {a:List AV} {x:Int} (ha:fZ a (some x)) (H:aA):Sg 122 [.agg a] H (.ret (.bool true)) H:=by
 refine So aYc (by simp only[sf,ha.free]) ?_ H;unfold aNk;dsimp only;have la:=ha.len;obtain⟨rfl,hz⟩:=ha.some
 have hv:∀H,Sg 142 [.agg (cI x)] H (.ret (.bool true)) H:=fun H=>by
  have :=Vj false (decide (x<0)) (.aW x.natAbs) H
  have e:(!decide (aW 16 x.natAbs=zs)|| !decide (x<0))=true:=by
   by_cases h:x<0
   · have :decide (aW 16 x.natAbs=zs)=false:=(by rw[Ae];rw[rW hz];omega);rw[this];rfl
   rw[Ae h];simp
  rw[if_neg (by decide),e] at this;exact this
 have e0:(cI x).getD 0 aD=.bool false:=rfl;simp only[↓zP,zJ,seval,la,e0];refine bK (hv _) ?_;simp only[↓zP,zG,seval];refine Rx ?_;rfl
theorem aEa (H:aA):Sg 101 [] H (.ret (.agg (cI 1))) H:=by refine Sp aLo (by simp only[sf]) (by simp only[sf,cH]) ?_ H;unfold aFk;dsimp only;simp only[↓zP,zJ,seval];refine bK (wT (z:=1) (by decide) (by decide) _) ?_;simp only[↓zP,zJ,seval];refine Rx ?_;rfl
theorem ur {n d:Int} (hn:n.natAbs<2^64) (hd:d.natAbs<2^64) (hp:0<d) (hg:Int.gcd n d=1) (H:aA):Sg 110 [.agg (cR n d)] H (.ret (.bool true)) H:=by
 refine So aXr (by simp only[sf,dr]) ?_ H;unfold aMz;dsimp only;have wn:n.natAbs<W^16:=Cg hn (by decide);have wd:d.natAbs<W^16:=Cg hd (by decide);have g1:=DS (.enc wn);have g2:=DS (.enc wd);have sg:=NZ (.enc wd);have gc:=LA (.enc wn) (.enc wd) hn hd;rw[hg] at gc
 have e1:decide (AH (some d)>0)=true:=by simp only[AH];split<;>(try split)<;>first|omega|rfl
 have l1:=zm n d;have l2:=aGj n d;have l3:=aGi n d;have fS:∀z,(cI z).length=18:=fun z=>dE z;have eqq:cP [.b,.b,.i,.i,.i,.i,.i,.i,.i,.i,.i,.i,.i,.i,.i,.i,.i,.i] (cI 1) (cI 1)=some true:=by rfl
 simp only[↓zP,zJ,seval,l1,l2];refine bK (g1 _) ?_;simp only[↓zP,zJ,seval,l1,l3,oL (fS _)];refine bK (g2 _) ?_;simp only[↓zP,zJ,seval,l1,l3,oL (fS _)];refine bK (sg _) ?_;simp only[↓zP,zJ,seval,l1,l2,l3,oL (fS _),e1];refine bK (gc _) ?_;simp only[↓zP,zG,seval];refine bK (aEa _) ?_;simp only[↓zP,zG,seval,eqq];refine Rx ?_;rfl
def xQ (n d:Int):Int:=if d<0 then -(Int.gcd n d:Int) else(Int.gcd n d:Int)
theorem uu {a b:List AV} {n d:Int} (ha:fZ a (some n)) (hb:fZ b (some d)) (Wb: -2^63<n) (DJ:n<2^63) (Ow: -2^63<d) (ow:d<2^63) (hd:d≠0) (H:aA):
 Sg 66 [.agg a,.agg b] H (.ret (.agg (cR (FV n (xQ n d)).1 (FV d (xQ n d)).1))) H:=by
 refine Sp bIa (by simp only[sf,ha.free,hb.free]) (by simp only[sf,dr]) ?_ H;unfold W66;dsimp only;have g1:=DS ha;have g2:=DS hb;have sg:=NZ hb;have gc:=LA ha hb (by omega) (by omega);have la:=ha.len;have lb:=hb.len;have fS:∀z,(cI z).length=18:=fun z=>dE z;have yF:(AV.bool false::AV.bool false::wC zs).length=18:=by simp[cM];rfl
 have hgz:(Int.gcd n d)≠0:=fun h=>hd (Int.gcd_eq_zero_iff.1 h).2;have hgl:Int.gcd n d<=d.natAbs:=Nat.gcd_le_right _ (by omega)
 have e1:(AH (some d)==0)=false:=by simp only[AH];split<;>(try split)<;>first|rfl|omega
 have e2:decide (AH (some d)<0)=decide (d<0):=by rw[Az];simp only[AH];split<;>(try split)<;>omega
 have hwg:(Int.gcd n d:Int).natAbs<W^16:=Cg (show(Int.gcd n d:Int).natAbs<2^63 by omega) (by decide);have ng:=YT (.enc hwg);have hwm:(xQ n d).natAbs<W^16:=by unfold xQ;split<;>omega
 have JA:xQ n d≠0:=by unfold xQ;split<;>omega
 have tR: -2^63<xQ n d:=by unfold xQ;split<;>omega
 have AL:xQ n d<2^63:=by unfold xQ;split<;>omega
 have q1:=LH ha (.enc hwm) Wb DJ tR AL JA;have q2:=LH hb (.enc hwm) Ow ow tR AL JA;refine bS ?_;simp only[↓zP,zJ,seval];refine bT ?_;generalize hX:(((aA.mk 0 .nil).alloc _).alloc _).alloc _=HA;have RL:HA.next=3:=by subst hX;rfl
 have AA:HA.get 0=some (.cells a false):=by subst hX;simp only[zI,seval]
 have ZK:HA.get 1=some (.cells b false):=by subst hX;simp only[zI,seval]
 obtain⟨zz,og,z36⟩:∃zz,HA.get 2=some (.cells zz false)/\zz.length=36:=by subst hX;refine⟨_,by simp only[zI,seval];rfl,?_⟩;rfl
 clear hX;refine bS ?_;simp only[↓zP,zJ,seval,AA,oL la];refine bK (g1 _) ?_;simp only[↓zP,zJ,seval,ZK,oL lb];refine bK (g2 _) ?_;simp only[↓zP,zJ,seval,ZK,oL lb];refine bK (sg _) ?_;simp only[↓zP,zG,seval,e1];refine bT ?_;refine tC fun f hf=>?_;have f2:f 2=.ref 0 0:=by subst hf;simp only[zB,seval]
 have f3:f 3=.ref 1 0:=by subst hf;simp only[zB,seval]
 have f4:f 4=.ref 2 0:=by subst hf;simp only[zB,seval]
 clear hf;refine bS ?_;simp only[↓zP,zJ,seval,f2,f3,AA,ZK,oL la,oL lb];refine bK (gc _) ?_;simp only[↓zP,zJ,seval,RL,fS,yF,oL yF];refine bT ?_;generalize hX:(HA.alloc _).set 3 _=HB;have h0:HB.get 0=some (.cells a false):=by subst hX;simp only[zI,seval,RL,AA]
 have h1:HB.get 1=some (.cells b false):=by subst hX;simp only[zI,seval,RL,ZK]
 have h2:HB.get 2=some (.cells zz false):=by subst hX;simp only[zI,seval,RL,og]
 have h3:HB.get 3=some (.cells (cI (Int.gcd n d)) false):=by subst hX;simp only[zI,seval]
 clear hX AA ZK og RL HA;refine tC fun f' hf=>?_;have VD:f' 2=.ref 0 0:=by subst hf;simp only[zB,seval];exact f2
 have f3':f' 3=.ref 1 0:=by subst hf;simp only[zB,seval];exact f3
 have VE:f' 4=.ref 2 0:=by subst hf;simp only[zB,seval];exact f4
 have ZC:f' 5=.ref 3 0:=by subst hf;simp only[zB,seval]
 clear hf f2 f3 f4 f;refine aJ fun K hK=>?_
 have key:∀(f:cU) (HC:aA),f 2=.ref 0 0->f 3=.ref 1 0->f 4=.ref 2 0->f 5=.ref 3 0->HC.get 0=some (.cells a false)->HC.get 1=some (.cells b false)->HC.get 2=some (.cells zz false)->HC.get 3=some (.cells (cI (xQ n d)) false)->K f [] HC:=by
  intro f HC f2 f3 f4 f5 h0 h1 h2 h3;apply hK;clear hK K;refine bS ?_;refine Dz ?_;generalize (FV n (xQ n d)).1=qa at *;generalize (FV d (xQ n d)).1=qb at *;have k1:(cI qa++AV.bool false::AV.bool false::wC zs).length=36:=by rw[An,fS,yF]
  have k2:(cI qa++AV.bool false::AV.bool false::wC zs).take 18=cI qa:=by rw[Db (by rw[fS];decide)];exact(oL (fS qa)).2.1
  have hcR:cI qa++cI qb=cR qa qb:=rfl;have IW:=oL (zm qa qb);have k3:(cI qa++AV.bool false::AV.bool false::wC zs).drop 36=[]:=List.drop_eq_nil_of_le (by rw[k1];decide);simp only[↓zP,zJ,seval,zD,f2,f5,h0,h3,oL la,oL (fS _)];refine eT (q1 _) ?_;simp only[↓zP,zJ,seval,zD,f3,f5,h1,h3,oL lb,oL (fS _)];refine eT (q2 _) ?_;simp only[↓zP,zJ,seval,zD,f4,h0,h1,h2,h3,oL (fS _),z36,oL z36,k1,k2,k3,hcR,IW];refine bT ?_;simp only[↓zP,seval];refine⟨rfl,_,by simp only[↓zP,zR,seval,f4,IW];rfl,?_⟩;rfl
 simp only[↓zP,zJ,seval,f3',h1,oL lb];refine bK (sg _) ?_;simp only[↓zP,zG,seval,e2];refine⟨fun ZR=>?_,fun ZR=>?_⟩
 · have em:xQ n d= -(Int.gcd n d:Int):=by unfold xQ;rw[if_pos ZR]
   have ev:AV.agg (cO (RS (some (Int.gcd n d:Int))))=AV.agg (cI (xQ n d)):=(by rw[em];rfl);rw[ev] at ng;simp only[zJ,seval,ZC,h3,oL (fS _)];refine bK (ng _) ?_;simp only[↓zP,zJ,seval,ZC,h3,oL (fS _)];refine key _ _ ?_ ?_ ?_ ?_ ?_ ?_ ?_ ?_
   · simp only[zB,seval];exact VD
   · simp only[zB,seval];exact f3'
   · simp only[zB,seval];exact VE
   · simp only[zB,seval];exact ZC
   · simp only[zI,seval,h0]
   · simp only[zI,seval,h1]
   · simp only[zI,seval,h2]
   simp only[zI,seval]
 have em:xQ n d=(Int.gcd n d:Int):=by unfold xQ;rw[if_neg ZR]
 rw[<-em] at h3;refine key _ _ ?_ ?_ ?_ ?_ h0 h1 h2 h3
 · simp only[zB,seval];exact VD
 · simp only[zB,seval];exact f3'
 · simp only[zB,seval];exact VE
 simp only[zB,seval];exact ZC
end Go.Proofs.YtbndcmnnbiiobaaGreatDoor
