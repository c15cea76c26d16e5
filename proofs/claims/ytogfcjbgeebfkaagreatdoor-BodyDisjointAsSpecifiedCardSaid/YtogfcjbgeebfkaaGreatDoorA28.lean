/-
  Part of the proof of statement 7
-/
import Derived.Test.YtogfcjbgeebfkaaGreatDoorA26
import Derived.Test.YtogfcjbgeebfkaaGreatDoorA27
import Derived.Test.YtogfcjbgeebfkaaGreatDoorA11
import Derived.Test.YtogfcjbgeebfkaaGreatDoorA13
set_option linter.unusedVariables false
set_option linter.unusedSimpArgs false
set_option maxRecDepth 100000
set_option maxHeartbeats 16000000
namespace Go.Proofs.YtogfcjbgeebfkaaGreatDoor
open Go Go.Av Go.lP
attribute [local congr] aY aS aV aQ bD aX aW aH bE
attribute [local irreducible] FC bT eX
theorem BX{z:Int}(h:z.natAbs<W^16):norm z=some z:=by unfold norm;rw[if_pos h]
theorem w63{z:Int}(h:z.natAbs<=2^63):z.natAbs<W^16:=by
 have :(2:Nat)^63<W^16:=by decide
 omega
theorem bFc(a b c d:Nat):[[AV.int .i64 (a:Int)],[.int .i64 (b:Int)],[.int .i64 (c:Int)],[.int .i64 (d:Int)]]=nE [a,b,c,d]:=rfl
theorem DD4{a b c d:Nat}(h:a<65536/\b<65536/\c<65536/\d<65536):DD [a,b,c,d]:=by
 intro x hx;simp only[Am,Cu,Fu] at hx
 rcases hx with rfl|rfl|rfl|rfl
 . exact h.1
 . exact h.2.1
 . exact h.2.2.1
 exact h.2.2.2
theorem vU{z:Int}(h0: -2^63<=z)(h1:z<2^63)(H:aA):Sg 59 [.int .i64 z] H (.ret (.agg (cI z))) H:=by
 refine So bKi Zac ?_ H;unfold W59;dsimp only
 have w:∀(n k:Nat),n<2^63->k≠0->IntKind.i64.wrap ((n:Int).tdiv k)=((n / k:Nat):Int):=fun n k hn hk=>by
  have h2:n / k<=n:=Gn n k;have e:(n:Int).tdiv k=((n / k:Nat):Int):=by rw[Gj A0];rfl
  rw[e];generalize n / k=q at *;exact wrap_i64 A0 A0
 have m:∀(n k:Nat),(n:Int).tmod k=((n%k:Nat):Int):=fun n k=>by rw[Fg A0];rfl
 have all:∀n:Nat,n<2^63->((n:Int).tmod 65536=((n%65536:Nat):Int))/\(IntKind.i64.wrap ((n:Int).tdiv 65536)=((n / 65536:Nat):Int))/\(((n / 65536:Nat):Int).tmod 65536=((n / 65536%65536:Nat):Int))/\(IntKind.i64.wrap ((n:Int).tdiv 4294967296)=((n / 4294967296:Nat):Int))/\
  (((n / 4294967296:Nat):Int).tmod 65536=((n / 4294967296%65536:Nat):Int))/\(IntKind.i64.wrap ((n:Int).tdiv 281474976710656)=((n / 281474976710656:Nat):Int)):=fun n hn=>
  ⟨m n 65536,w n 65536 hn A1,m (n / 65536) 65536,w n 4294967296 hn A1,m (n / 4294967296) 65536,w n 281474976710656 hn A1⟩
 by_cases hz:0<=z
 . obtain⟨n,rfl⟩:∃n:Nat,z=n:=⟨z.toNat,by omega⟩;have hn:n<2^63:=by omega
   have hd:decide ((n:Int)≥0)=true:=Aj A0;have hDD:DD [n%65536,n / 65536%65536,n / 4294967296%65536,n / 281474976710656]:=DD4 ⟨by omega,by omega,by omega,by omega⟩;have JB:bZ [n%65536,n / 65536%65536,n / 4294967296%65536,n / 281474976710656]=n:=(by simp only[bZ];omega);have aBq:=tW false 1 hDD A2;rw[JB,BX (by rw[iS];exact w63 (z:=n) A0)] at aBq;simp only[↓zP,zJ,seval,hd,all n hn];rw[bFc];refine bO (aBq _) ?_;simp only[cO,sg];refine Ty ?_;exact ZaB
 obtain⟨n,rfl⟩:∃n:Nat,z= -((n:Int)+1):=⟨(-z -1).toNat,by omega⟩;have hn:n<2^63:=by omega
 have hd:decide (-((n:Int)+1)≥0)=false:=Ad A0;have b1:IntKind.i64.wrap (-((n:Int)+1)+1)= -(n:Int):=wI A0;have b2:IntKind.i64.wrap (0 - -(n:Int))=(n:Int):=wI A0;have hDD:DD [n%65536,n / 65536%65536,n / 4294967296%65536,n / 281474976710656]:=DD4 ⟨by omega,by omega,by omega,by omega⟩;have JB:bZ [n%65536,n / 65536%65536,n / 4294967296%65536,n / 281474976710656]=n:=by simp only[bZ];omega
 have hD1:DD [1]:=fun d hd=>by rw[Cc] at hd;subst hd;decide
 have hp:=aEg hDD hD1 A2 A2 1 1;rw[JB,show bZ [1]=1 from rfl] at hp
 have aBq:=tW true 0 (zL (n+1)) (by
  have :=Rl (k:=5) (n:=n+1) (by
   have :(2:Nat)^63<65536^5:=by decide
   omega)
  omega)
 rw[qY,BX (by rw[iS];exact w63 (z:=(n+1:Nat)) A0)] at aBq;simp only[↓zP,zJ,seval,hd,b1,b2,all n hn];rw[bFc,show [[AV.int .i64 1]]=nE [1] from rfl];refine bO (hp _) ?_;refine bO (aBq _) ?_;rw[show sg true (n+1)= -((n:Int)+1) by simp[sg]];simp only[cO];refine Ty ?_;exact ZaB
def ka:Option Int->Int×Bool
 |some z=>if z.natAbs<2^62 then(z,true) else(0,false)
 |none=>(0,false)
theorem bq{n:Nat}(h:n<W^16)(h1:aJ n 1<1073741824)(h2:∀k,2<=k->k<16->aJ n k=0):n<2^62/\n=aJ n 1*4294967296+aJ n 0:=by
 have hW:W=4294967296:=rfl;have h3:=GL (m:=2) h h2;have e1:aJ n 1=n / 4294967296%4294967296:=by simp[aJ,hW]
 have e0:aJ n 0=n%4294967296:=by simp[aJ,hW]
 have e2:W^2=18446744073709551616:=rfl;rw[e2] at h3;omega
theorem u9{n k:Nat}(hk:2<=k)(h:aJ n k≠0):¬n<2^62:=by have h1:=gm h;have h2:W^2<=W^k:=Ck A1 hk;have e2:W^2=18446744073709551616:=rfl;omega
theorem aFr{n:Nat}(h:¬aJ n 1<1073741824):¬n<2^62:=by
 have hW:W=4294967296:=rfl;have e1:aJ n 1=n / 4294967296%4294967296:=by simp[aJ,hW]
 omega
theorem bp{p q n:Nat}(hp:p<1073741824)(hq:q<4294967296)(e:n=p*4294967296+q):IntKind.i64.wrap (p:Int)=p/\IntKind.i64.wrap ((p:Int)*4294967296)=(p:Int)*4294967296/\IntKind.i64.wrap (q:Int)=q/\IntKind.i64.wrap ((p:Int)*4294967296+(q:Int))=n/\IntKind.i64.wrap (0 -(n:Int))= -(n:Int):=by
 refine⟨wrap_i64 A0 A0,wrap_i64 A0 A0,wrap_i64 A0 A0,?_,?_⟩
 . rw[wrap_i64 A0 A0];omega
 rw[wrap_i64 A0 A0];omega
theorem ah{z:Int}(hz:z.natAbs<W^16)(H:aA):Sg 142 [.agg (cI z)] H (.ret (.jZ [.int .i64 (ka (some z)).1,.bool (ka (some z)).2])) H:=by
 refine So bAm Zak ?_ H;unfold aPg;dsimp only;have Mi:=pU (dS.enc hz);have hl:=iL (.aL z.natAbs);simp only[ka];unfold cI at Mi ⊢;have d1:decide (((aJ z.natAbs 1:Nat):Int)≥1073741824)= !decide (aJ z.natAbs 1<1073741824):=by rw[<-decide_not,Bk];omega
 have hg:∀k,k<16->(AV.bool false::.bool (decide (z<0))::wC (aL 16 z.natAbs)).getD (2+k) aB=.int .u32 (aJ z.natAbs k:Nat):=fun k hk=>by rw[Kc2,mZ (by rw[bP];exact hk),jD hk]
 have ZA:(wC (aL 16 z.natAbs)).getD 1 aB=.int .u32 (aJ z.natAbs 1:Nat):=hg 1 A1;have Yz:(wC (aL 16 z.natAbs)).getD 0 aB=.int .u32 (aJ z.natAbs 0:Nat):=hg 0 A1;refine bX ?_;refine Ty ?_;refine bY ?_;simp only[↓zP,zJ,seval,hl];refine bO (Mi _) ?_;by_cases h1:aJ z.natAbs 1<1073741824
 . have Xd:decide (((aJ z.natAbs 1:Nat):Int)≥1073741824)=false:=by rw[d1];simp[h1]
   simp only[An];simp only[↓zP,zJ,seval,pZ,hl,ZA,Xd];refine cP [] (fun k vs H'=>H'=((⟨0,.nil⟩:aA).alloc (.cells (.bool false::.bool (decide (z<0))::wC (aL 16 z.natAbs)) false))/\∀j,2<=j->j<k->aJ z.natAbs j=0) 2 16 A1 A1 A1 ?_ ?_ ?_ ?_ ?_
   . exact zq
   . exact⟨rfl,fun j h1 h2=>by omega⟩
   . rintro i f H1 h0 hi hk e1 ⟨rfl,hj⟩;exact ZaO
   . rintro i f H1 h0 hi hk e1 ⟨rfl,hj⟩;have f1:f 1=.ref 0 0:=hk 1 rfl;have LV:=hg i hi;have h2i:2+i<=17:=A0;refine aP ?_;by_cases Lo:aJ z.natAbs i=0
     . have hb:(((aJ z.natAbs i:Nat):Int) != 0)=false:=(by rw[Lo];rfl);simp only[↓zP,zJ,seval,f1,e1,aG,hi,hl,LV,h2i,hb]
       exact⟨trivial,fun j h1 h2=>by
        by_cases e:j=i
        . subst e;exact Lo
        exact hj j h1 A0⟩
     have hb:(((aJ z.natAbs i:Nat):Int) != 0)=true:=(by rw[Gw];omega);simp only[↓zP,zJ,seval,f1,e1,aG,hi,hl,LV,h2i,hb];refine Rx ?_;rw[if_neg (u9 h0 Lo)];rfl
   rintro f H1 hk ⟨rfl,hj⟩;have f1:f 1=.ref 0 0:=hk 1 rfl;obtain⟨dT,JB⟩:=bq hz h1 hj;rw[if_pos dT];have c0:aJ z.natAbs 0<4294967296:=cU z.natAbs 0;obtain⟨w1,w2,w3,w4,w5⟩:=bp h1 c0 JB;by_cases hn:z<0
   . have d2:decide (z<0)=true:=Aj hn;simp only[↓zP,zJ,seval,f1,hl,ZA,Yz,w1,w2,w3,w4,w5,d2];refine Rx ?_;rw[show -(z.natAbs:Int)=z by omega];rfl
   have d2:decide (z<0)=false:=Ad hn;simp only[↓zP,zJ,seval,f1,hl,ZA,Yz,w1,w2,w3,w4,d2];refine Rx ?_;rw[show(z.natAbs:Int)=z by omega];rfl
 have Xd:decide (((aJ z.natAbs 1:Nat):Int)≥1073741824)=true:=by rw[d1];simp[h1]
 simp only[An];simp only[↓zP,zJ,seval,pZ,hl,ZA,Xd];refine Rx ?_;rw[if_neg (aFr h1)];rfl
theorem nS{z:Int}(hz:z.natAbs<2^62)(H:aA):Sg 142 [.agg (cI z)] H (.ret (.jZ [.int .i64 z,.bool true])) H:=by
 have :=ah (z:=z) (w63 A0) H
 rwa [ka,if_pos hz] at this
theorem Vn{z:Int}(h:z.natAbs<2^62):z.natAbs<W^16:=w63 A0
theorem QD(x:Int)(H:aA):Sg 225 [.int .i64 x] H (.ret (.bool (decide (x<2147483648)&&decide (x> -2147483648)))) H:=by
 refine So bCd Zac ?_ H;unfold aQx;dsimp only
 cases h:decide (x<2147483648) with
 |true=>simp only[↓zP,zJ,seval,h];exact⟨rfl,_,by simp only[↓zP,zR,seval];rfl,rfl⟩
 |false=>simp only[↓zP,zJ,seval,h];exact⟨rfl,_,by simp only[↓zP,zR,seval];rfl,rfl⟩
theorem NA{x:Int}(h:x.natAbs<2^31)(H:aA):Sg 225 [.int .i64 x] H (.ret (.bool true)) H:=by
 have :=QD x H
 rwa [Aj (show x<2147483648 by omega),Aj (show x> -2147483648 by omega)] at this
theorem GU{x y:Int}(hx:x.natAbs<2^31)(hy:y.natAbs<2^31)(H:aA):Sg 173 [.agg (cI x),.agg (cI y)] H (.ret (.agg (cI (x*y)))) H:=by
 refine Sp aNi Zak Zat ?_ H;unfold aGj;dsimp only
 have hb:(x*y).natAbs<2^62:=by
  rw[Ex];have :=Hb hx hy;have e:(2:Nat)^31*2^31=2^62:=by decide
  omega
 have wm:IntKind.i64.wrap (x*y)=x*y:=wrap_i64 A0 A0;have ho:=vU (z:=x*y) A0 A0;refine bX ?_;refine Ty ?_;refine gG ?_;refine Ty ?_;refine bO (nS (z:=x) A0 _) ?_;refine Ty ?_;refine gG ?_;refine Ty ?_;refine bO (nS (z:=y) A0 _) ?_;refine Ty ?_;refine bY ?_;refine aT fun K hK=>?_;refine Tz ?_;refine bO (NA hx _) ?_;refine Tz ?_;refine bO (NA hy _) ?_;simp only[↓zP,zG,seval,wm];refine bO (ho _) ?_;refine Ty ?_;exact ZaB
theorem GS{x y:Int}(hx:x.natAbs<2^62)(hy:y.natAbs<2^62)(H:aA):Sg 60 [.agg (cI x),.agg (cI y)] H (.ret (.agg (cI (x+y)))) H:=by refine Sp bKj Zak Zat ?_ H;unfold W60;dsimp only;have wm:IntKind.i64.wrap (x+y)=x+y:=wrap_i64 A0 A0;have ho:=vU (z:=x+y) A0 A0;refine bX ?_;refine Ty ?_;refine gG ?_;refine Ty ?_;refine bO (nS hx _) ?_;refine Ty ?_;refine gG ?_;refine Ty ?_;refine bO (nS hy _) ?_;refine Ty ?_;refine bY ?_;refine aT fun K hK=>?_;simp only[↓zP,zG,seval,wm];refine bO (ho _) ?_;refine Ty ?_;refine Rx ?_;rfl
theorem aLb{z:Int}(hz:z.natAbs<W^16)(H:aA):Sg 219 [.agg (cI z)] H (.ret (.agg (cI (-z)))) H:=by refine Sp bCa Zak Zat ?_ H;unfold aQu;dsimp only;have Mi:=pU (dS.enc hz);have hd:=oK false (decide (z<0)) (.aL z.natAbs);have hn:=tW (!decide (z<0)) 0 (zL z.natAbs) (by have :=mF.2 hz;omega);rw[qY,BX (by rw[iS];exact hz),show sg (!decide (z<0)) z.natAbs= -z from by unfold sg;split<;>simp_all<;>omega] at hn;rw[eD hz] at hd;have oo:AV.bool false::AV.bool (decide (z<0))::wC (aL 16 z.natAbs)=cI z:=rfl;rw[oo] at hd;have h1:(cI z).getD 1 aB=.bool (decide (z<0)):=rfl;refine bX ?_;refine Ty ?_;refine gG ?_;refine Ty ?_;refine bO (Mi _) ?_;simp only[An];refine Ty ?_;refine gG ?_;refine Dz ?_;simp only[↓zP,zJ,seval,zD,h1];refine dM (hd _) ?_;simp only[seval];refine dM (hn _) ?_;simp only[cO];simp only[↓zP,zJ,seval,zD];refine bY ?_;refine Tx ?_;refine Rx ?_;rfl
theorem Zr{x y:Int}(hx:x.natAbs<2^62)(hy:y.natAbs<2^62)(H:aA):Sg 163 [.agg (cI x),.agg (cI y)] H (.ret (.agg (cI (x -y)))) H:=by refine Sp bAv Zak Zat ?_ H;unfold aPp;dsimp only;have ha:=GS hx (y:= -y) (by rwa [Ld]);rw[<-Ju] at ha;refine bX ?_;refine Ty ?_;refine gG ?_;refine Dz ?_;simp only[↓zP,zJ,seval,zD];refine dM (aLb (Vn hy) _) ?_;simp only[seval];refine dM (ha _) ?_;simp only[↓zP,zJ,seval,zD];refine bY ?_;refine Tx ?_;refine Rx ?_;rfl
theorem aKy{z:Int}(hz:z.natAbs<W^16)(H:aA):Sg 270 [.agg (cI z)] H (.ret (.agg (cI (z.natAbs:Int)))) H:=by refine Sp bDj Zak Zat ?_ H;unfold aSd;dsimp only;have Mi:=pU (dS.enc hz);have hd:=oK false (decide (z<0)) (.aL z.natAbs);have hn:=tW false 0 (zL z.natAbs) (by have :=mF.2 hz;omega);rw[qY,BX (by rw[iS];exact hz),show sg false z.natAbs=(z.natAbs:Int) from rfl] at hn;rw[eD hz] at hd;have oo:AV.bool false::AV.bool (decide (z<0))::wC (aL 16 z.natAbs)=cI z:=rfl;rw[oo] at hd;refine bX ?_;refine Ty ?_;refine gG ?_;refine Ty ?_;refine bO (Mi _) ?_;simp only[An];refine Ty ?_;refine bY ?_;refine Ty ?_;refine bO (hd _) ?_;refine bO (hn _) ?_;simp only[cO];refine Ty ?_;refine Rx ?_;rfl
def aEo(z:Int):Int:=if z=0 then 0 else if z<0 then -1 else 1
theorem aDz{z:Int}(hz:z.natAbs<W^16)(H:aA):Sg 217 [.agg (cI z)] H (.ret (.int .i64 (aEo z))) H:=by
 refine So bBy Zak ?_ H;unfold aQs;dsimp only;have Mi:=pU (dS.enc hz);have hd:=oK false (decide (z<0)) (.aL z.natAbs);rw[eD hz] at hd;have oo:AV.bool false::AV.bool (decide (z<0))::wC (aL 16 z.natAbs)=cI z:=rfl;rw[oo] at hd;have h1:(cI z).getD 1 aB=.bool (decide (z<0)):=rfl;unfold aEo;refine bX ?_;refine Ty ?_;refine bY ?_;refine aT fun K hK=>?_;refine Ty ?_;refine bO (Mi _) ?_;simp only[An];refine Ty ?_;refine bO (hd _) ?_;by_cases h0:z=0
 . have hb:(((dg z.natAbs).length:Int)==0)=true:=by
    rw[Dh,Tc.2 A0];rfl
   simp only[↓zP,zG,seval,dJ,hb];refine Rx ?_;rw[if_pos h0];rfl
 have hb:(((dg z.natAbs).length:Int)==0)=false:=by rw[Dr];intro h;have :=Tc.1 (Cp (l:=dg z.natAbs) A0);omega
 simp only[↓zP,zG,seval,dJ,hb];apply hK;clear hK K
 cases hn:decide (z<0) with
 |true=>rw[hn] at h1;simp only[↓zP,zJ,seval,h1];refine Rx ?_;rw[if_neg h0,if_pos (Ed hn)];rfl
 |false=>rw[hn] at h1;simp only[↓zP,zJ,seval,h1];refine Rx ?_;rw[if_neg h0,if_neg (Gf hn)];rfl
theorem DN{x y:Int}(hx:x.natAbs<W^16)(hy:y.natAbs<W^16)(H:aA):Sg 162 [.agg (cI x),.agg (cI y)] H (.ret (.int .i64 (kW (some x) (some y)))) H:=by
 refine So bAu Zak ?_ H;unfold aPo;dsimp only;have gx:=pU (dS.enc hx);have gy:=pU (dS.enc hy);have dx:=oK false (decide (x<0)) (.aL x.natAbs);have dy:=oK false (decide (y<0)) (.aL y.natAbs);rw[eD hx] at dx;rw[eD hy] at dy;rw[show AV.bool false::AV.bool (decide (x<0))::wC (aL 16 x.natAbs)=cI x from rfl] at dx;rw[show AV.bool false::AV.bool (decide (y<0))::wC (aL 16 y.natAbs)=cI y from rfl] at dy;have lx:(dg x.natAbs).length<2^29:=by have :=mF.2 hx;omega
 have ly:(dg y.natAbs).length<2^29:=by have :=mF.2 hy;omega
 have l1:=Wx (zL x.natAbs) (zL y.natAbs) lx ly 0 0;have l2:=Wx (zL y.natAbs) (zL x.natAbs) ly lx 0 0;rw[qY,qY] at l1 l2;have x1:(cI x).getD 1 aB=.bool (decide (x<0)):=rfl;have y1:(cI y).getD 1 aB=.bool (decide (y<0)):=rfl;simp only[kW];refine bX ?_;refine Ty ?_;refine gG ?_;refine Ty ?_;refine bO (gx _) ?_;simp only[An];refine Ty ?_;refine gG ?_;refine Ty ?_;refine bO (gx _) ?_;simp only[An];refine Ty ?_;refine gG ?_;refine Ty ?_;refine bO (gy _) ?_;simp only[An];refine Ty ?_;refine bY ?_;have tf:(true==false)=false:=rfl;have ft:(false==true)=false:=rfl;by_cases Xt:x<0
 . rw[Aj Xt] at x1;by_cases PE:y<0
   . rw[Aj PE] at y1;refine bX ?_;simp only[↓zP,zJ,seval,x1,y1];refine gG ?_;refine Ty ?_;refine bO (dx _) ?_;refine Tz ?_;refine gG ?_;refine Ty ?_;refine bO (dy _) ?_;refine Tz ?_;refine gG ?_;simp only[↓zP,zJ,seval,x1];refine bO (dy _) ?_;refine Ty ?_;refine bO (dx _) ?_;refine Tz ?_;refine gG ?_;refine Tz ?_;refine bO (l2 _) ?_;refine Tz ?_;refine gG ?_;refine Tz ?_;refine bO (l1 _) ?_;refine Tz ?_;refine bY ?_;by_cases h1:y.natAbs<x.natAbs
     . have e1:=Aj h1;simp only[↓zP,zG,seval,e1];refine Rx ?_;rw[if_pos A0];rfl
     have e1:=Ad h1;by_cases h2:x.natAbs<y.natAbs
     . have e2:=Aj h2;simp only[↓zP,zG,seval,e1,e2];refine Rx ?_;rw[if_neg A0,if_pos A0];rfl
     have e2:=Ad h2;simp only[↓zP,zG,seval,e1,e2];refine Rx ?_;rw[if_neg A0,if_neg A0];rfl
   rw[Ad PE] at y1;simp only[↓zP,zJ,seval,x1,y1,tf];refine Rx ?_;rw[if_pos A0];rfl
 rw[Ad Xt] at x1;by_cases PE:y<0
 . rw[Aj PE] at y1;simp only[↓zP,zJ,seval,x1,y1,ft];refine Rx ?_;rw[if_neg A0,if_pos A0];rfl
 rw[Ad PE] at y1;refine bX ?_;simp only[↓zP,zJ,seval,x1,y1];refine gG ?_;refine Ty ?_;refine bO (dx _) ?_;refine Tz ?_;refine gG ?_;refine Ty ?_;refine bO (dy _) ?_;refine Tz ?_;refine gG ?_;simp only[↓zP,zJ,seval,x1];refine gG ?_;refine Tz ?_;refine bO (l1 _) ?_;refine Tz ?_;refine gG ?_;refine Tz ?_;refine bO (l2 _) ?_;refine Tz ?_;refine bY ?_;by_cases h1:x.natAbs<y.natAbs
 . have e1:=Aj h1;simp only[↓zP,zG,seval,e1];refine Rx ?_;rw[if_pos A0];rfl
 have e1:=Ad h1;by_cases h2:y.natAbs<x.natAbs
 . have e2:=Aj h2;simp only[↓zP,zG,seval,e1,e2];refine Rx ?_;rw[if_neg A0,if_pos A0];rfl
 have e2:=Ad h2;simp only[↓zP,zG,seval,e1,e2];refine Rx ?_;rw[if_neg A0,if_neg A0];rfl
end Go.Proofs.YtogfcjbgeebfkaaGreatDoor
namespace Go.Proofs.YtogfcjbgeebfkaaGreatDoor
open Go Go.Av Go.aD Go.lP
attribute [local congr] aY aS aV aQ bD aX aW aH bE
attribute [local irreducible] FC bT eX
theorem XI{p q n:Nat}(hn:n<2^64)(e:n=p*4294967296+q)(hq:q<4294967296):IntKind.u64.wrap (p:Int)=p/\IntKind.u64.wrap ((p:Int)*4294967296)=(p:Int)*4294967296/\IntKind.u64.wrap (q:Int)=q/\IntKind.u64.wrap ((p:Int)*4294967296+(q:Int))=n:=by refine⟨?_,?_,?_,?_⟩<;>rw[Qc (k:=.u64) rfl]<;>simp only[IntKind.bits]<;>omega
theorem aXl{n:Nat}(h:n<2^64):n=aJ n 1*4294967296+aJ n 0/\aJ n 0<4294967296:=by
 have hW:W=4294967296:=rfl;have e1:aJ n 1=n / 4294967296%4294967296:=by simp[aJ,hW]
 have e0:aJ n 0=n%4294967296:=by simp[aJ,hW]
 omega
theorem Sm{z:Int}(h0: -2^63<=z)(h1:z<2^63)(H:aA):Sg 159 [.agg (cI z)] H (.ret (.jZ [.int .i64 z,.bool true])) H:=by
 refine So bAs Zak ?_ H;unfold aPm;dsimp only;have hz:z.natAbs<W^16:=w63 A0;have gz:=pU (dS.enc hz);have lo:=vU (z:= -9223372036854775808) A1 A1;have hi:=vU (z:=9223372036854775807) A1 A1;have c1:=DN hz (y:= -9223372036854775808) A1;have c2:=DN hz (y:=9223372036854775807) A1;have d1:decide (kW (some z) (some (-9223372036854775808))<0)=false:=Ad (by simp only[kW];split<;>(try split)<;>omega);have d2:decide (kW (some z) (some 9223372036854775807)>0)=false:=Ad (by simp only[kW];split<;>(try split)<;>omega);obtain⟨s1,s2⟩:=aXl (n:=z.natAbs) A0;obtain⟨w1,w2,w3,w4⟩:=XI A0 s1 s2
 have w5:IntKind.i64.wrap (z.natAbs:Int)=if z<0/\z.natAbs=2^63 then z else(z.natAbs:Int):=by
  by_cases h:z.natAbs=2^63
  . rw[if_pos ⟨by omega,h⟩,h];have :z= -2^63:=by omega
    rw[this];rfl
  rw[if_neg (fun hh=>h hh.2)];exact wrap_i64 A0 A0
 have ZA:(wC (aL 16 z.natAbs)).getD 1 aB=.int .u32 (aJ z.natAbs 1:Nat):=by rw[mZ (by rw[bP];decide),jD A1]
 have Yz:(wC (aL 16 z.natAbs)).getD 0 aB=.int .u32 (aJ z.natAbs 0:Nat):=by rw[mZ (by rw[bP];decide),jD A1]
 have hl:=iL (.aL z.natAbs);have dA:∀z,(cI z).length=18:=fun z=>by simp[cI,bW,bP]
 have e1:(cI z).getD 1 aB=.bool (decide (z<0)):=rfl;have e2:(cI z).getD 2 aB=.int .u32 (aJ z.natAbs 0:Nat):=Yz;have e3:(cI z).getD 3 aB=.int .u32 (aJ z.natAbs 1:Nat):=ZA;refine bX ?_;refine Ty ?_;refine gG ?_;refine Ty ?_;refine bO (gz _) ?_;simp only[An];refine Ty ?_;refine gG ?_;simp only[↓zP,seval,zI];refine bO (lo _) ?_;simp only[↓zP,zJ,seval,oL (dA (-9223372036854775808))];refine gG ?_;simp only[↓zP,seval,zI];refine bO (hi _) ?_;simp only[↓zP,zJ,seval,oL (dA 9223372036854775807)];refine gG ?_;refine Ty ?_;refine bO (c1 _) ?_;simp only[↓zP,zJ,seval,d1];refine bO (c2 _) ?_;simp only[↓zP,zG,seval,d2];refine gG ?_;simp only[↓zP,zJ,seval,pZ,e2,e3,w1,w2,w3,w4,w5];refine bY ?_;by_cases hn:z<0
 . rw[Aj hn] at e1
   have w6:IntKind.i64.wrap (0 -(if z<0/\z.natAbs=2^63 then z else(z.natAbs:Int)))=z:=by
    by_cases h:z.natAbs=2^63
    . rw[if_pos ⟨hn,h⟩];have :z= -2^63:=A0;rw[this];rfl
    rw[if_neg (fun hh=>h hh.2),wrap_i64 A0 A0];omega
   simp only[↓zP,zJ,seval,e1,w6];exact ZaB
 rw[Ad hn] at e1;simp only[↓zP,zJ,seval,e1];refine Rx ?_;rw[if_neg (fun hh=>hn hh.1),show(z.natAbs:Int)=z by omega];rfl
theorem Zo{a b:Int}(ha:a.natAbs<2^62)(hb:b.natAbs<2^62)(H:aA):Sg 218 [.agg (cI a),.agg (cI b)] H (.ret (.agg (cI (Int.gcd a b)))) H:=by
 refine Sp bBz Zak Zat ?_ H;unfold aQt;dsimp only;refine bX ?_;refine Ty ?_;refine gG ?_;refine Ty ?_;refine bO (nS ha _) ?_;refine Ty ?_;refine gG ?_;refine Ty ?_;refine bO (nS hb _) ?_;refine Ty ?_;refine bY ?_;refine aT fun K hK=>?_;refine Tz ?_;refine aP (iA [5,7] (fun m vs H'=>H'=(((⟨0,.nil⟩:aA).alloc (.cells (cI a) false)).alloc (.cells (cI b) false)).alloc (.cells (.bool false::.bool false::wC zs) false)/\∃x y:Int,vs=[.int .i64 x,.int .i64 y]/\x.natAbs<2^62/\y.natAbs<2^62/\m=y.natAbs/\Int.gcd x y=Int.gcd a b) b.natAbs (by rfl) ?_ ?_)
 . exact⟨rfl,a,b,by simp only[sm,zB,seval],ha,hb,rfl,rfl⟩
 rintro m f H hk ⟨rfl,x,y,hv,hx,hy,rfl,hg⟩;simp only[zM] at hv;obtain⟨h0,h1⟩:=hv;have f4:f 4=.ref 2 0:=hk 4 rfl;by_cases PE:y=0
 . subst PE;have ho:=vU (z:=x) A0 A0;have wU:=aKy (z:=x) (Vn hx);have PD:(x.natAbs:Int)=Int.gcd a b:=by rw[<-hg];simp[Int.gcd]
   rw[PD] at wU;simp only[↓zP,zG,seval,h1,h0,show((0:Int) != 0)=false from rfl];refine bO (ho _) ?_;refine bO (wU _) ?_;simp only[↓zP,zJ,seval,f4];refine⟨rfl,_,by simp only[↓zP,zR,seval,f4];rfl,?_⟩;rfl
 have rP:(y != 0)=true:=by simpa using PE
 have dT:(x.tmod y).natAbs<y.natAbs:=by rw[natAbs_tmod];exact Bz _ A0
 simp only[↓zP,zJ,seval,h1,rP];refine aP ?_;simp only[↓zP,zG,seval,h0,h1];rw[if_neg PE];simp only[zG,seval];exact⟨_,dT,trivial,y,x.tmod y,by simp only[seval],hy,by omega,rfl,by rw[Vs,hg]⟩
theorem th{n m:Int}(hm:0<m)(hd:m∣n)(hn:n.natAbs<2^62)(H:aA):Sg 221 [.int .i64 n,.int .i64 m] H (.ret (.int .i64 (n / m))) H:=by
 refine So bCc Zac ?_ H;unfold aQw;dsimp only;have e1:n.tdiv m=n / m:=Iq hd;have e2:n.tmod m=0:=Int.tmod_eq_zero_of_dvd hd
 have hw:IntKind.i64.wrap (n / m)=n / m:=by
  obtain⟨k,rfl⟩:=hd;rw[Kf _ A0]
  have :k.natAbs<=(m*k).natAbs:=by rw[Ex];exact Hn _ A0
  exact wrap_i64 A0 A0
 have SL:¬m=0:=by omega
 simp only[↓zP,zJ,seval,e1,e2,hw,SL,show((0:Int) != 0)=false from rfl];exact ZaB
theorem Zq{n m:Int}(hm:0<m)(hd:m∣n)(hn:n.natAbs<2^62)(hm2:m.natAbs<2^62)(H:aA):Sg 160 [.agg (cI n),.agg (cI m)] H (.ret (.agg (cI (n / m)))) H:=by
 refine Sp bAt Zak Zat ?_ H;unfold aPn;dsimp only;have hb:(m != 0)=true:=by rw[Gw];omega
 have hf:=th hm hd hn
 have hq:(n / m).natAbs<2^62:=by
  obtain⟨k,rfl⟩:=hd;rw[Kf _ A0]
  have :k.natAbs<=(m*k).natAbs:=by rw[Ex];exact Hn _ A0
  omega
 have ho:=vU (z:=n / m) A0 A0;refine bX ?_;refine Ty ?_;refine gG ?_;refine Ty ?_;refine bO (nS hn _) ?_;refine Ty ?_;refine gG ?_;refine Ty ?_;refine bO (nS hm2 _) ?_;refine Ty ?_;refine bY ?_;refine aT fun K hK=>?_;simp only[↓zP,zG,seval,hb];refine bO (hf _) ?_;refine bO (ho _) ?_;refine Ty ?_;exact ZaB
end Go.Proofs.YtogfcjbgeebfkaaGreatDoor
