/-
  Part of the proof of statement 7
-/
import Derived.Test.YtogfcjbgeebfkaaGreatDoorA28
import Derived.Test.YtogfcjbgeebfkaaGreatDoorA29
import Derived.Test.YtogfcjbgeebfkaaGreatDoorA17
import Derived.Test.YtogfcjbgeebfkaaGreatDoorA07
set_option linter.unusedVariables false
set_option linter.unusedSimpArgs false
set_option maxRecDepth 100000
set_option maxHeartbeats 16000000
namespace Go.Proofs.YtogfcjbgeebfkaaGreatDoor
open Go Go.Av Go.aD Go.lP
attribute [local congr] aY aS aV aQ bD aX aW aH bE
attribute [local irreducible] FC bT eX
theorem xR{a b:aD.V}{A B:Nat}(ha:bL A a)(hb:bL B b)(hs:A+B<2^62)(H:aA):Sg 56 [.agg (cE a),.agg (cE b)] H (.ret (.agg (cE (aD.sub a b)))) H:=by
 obtain⟨a1,a2,a3⟩:=ha;obtain⟨b1,b2,b3⟩:=hb;have w1:IntKind.i64.wrap (a.x -b.x)=a.x -b.x:=fX (B:=A+B) A0 A0;have w2:IntKind.i64.wrap (a.y -b.y)=a.y -b.y:=fX (B:=A+B) A0 A0;have w3:IntKind.i64.wrap (a.z -b.z)=a.z -b.z:=fX (B:=A+B) A0 A0;refine Sp bKh Zah Zah ?_ H;unfold W56;dsimp only;simp only[↓zP,zJ,seval,cE,pZ,w1,w2,w3]
 (refine Rx ?_;rfl)
def tZ(a b:aD.V):Bool:=decide (a.x<b.x)||(decide (a.x=b.x)&&(decide (a.y<b.y)||(decide (a.y=b.y)&&decide (a.z<b.z))))
theorem CO{a b:aD.V}:tZ a b=true↔gV a b:=by unfold tZ gV;simp only[Dq,Ak,Bf]
theorem Sr(a b:aD.V)(H:aA):Sg 233 [.agg (cE a),.agg (cE b)] H (.ret (.bool (tZ a b))) H:=by
 refine So bCg Zah ?_ H;unfold aRa;dsimp only;by_cases h0:a.x=b.x
 . have e0:(a.x != b.x)=false:=by simp[h0]
   by_cases h1:a.y=b.y
   . have e1:(a.y != b.y)=false:=(by simp[h1]);have :tZ a b=decide (a.z<b.z):=(by simp[tZ,h0,h1]);rw[this];simp only[↓zP,zJ,seval,cE,pZ,e0,e1]
     (refine Rx ?_;rfl)
   have e1:(a.y != b.y)=true:=(by simp[h1]);have :tZ a b=decide (a.y<b.y):=(by simp[tZ,h0,h1]);rw[this];simp only[↓zP,zJ,seval,cE,pZ,e0,e1]
   (refine Rx ?_;rfl)
 have e0:(a.x != b.x)=true:=by simp[h0]
 have :tZ a b=decide (a.x<b.x):=by simp[tZ,h0]
 rw[this];simp only[↓zP,zJ,seval,cE,pZ,e0]
 (refine Rx ?_;rfl)
theorem aa{v:aD.V}{B:Nat}(hv:bL B v)(hB:B<2^61)(H:aA):Sg 55 [.agg (cE v)] H (.ret (.bool true)) H:=by
 refine So bKg Zah ?_ H;unfold W55;dsimp only;refine Ty ?_;refine cP [] (fun i vs H'=>H'=((⟨0,.nil⟩:aA).alloc (.cells (cE v) false))) 0 3 A1 A1 A1 ?_ ?_ ?_ ?_ ?_
 . exact zq
 . rfl
 . rintro i f H1 h0 hi hk e1 rfl;exact ZaO
 . rintro i f H1 h0 hi hk e1 rfl;have f1:f 1=.ref 0 0:=hk 1 rfl;have hg:=jL v hi;have hb:=bL.c hv i;have d1:decide (v.at i≥2305843009213693952)=false:=Ad A0;have d2:decide (v.at i<=-2305843009213693952)=false:=Ad A0;have h3:i+1<=3:=by omega
   refine aP ?_;simp only[↓zP,zJ,seval,f1,e1,aG,hi,aM,hg,d1,d2,h3]
 rintro f H1 hk rfl;refine Tx ?_
 (refine Rx ?_;rfl)
theorem aAv{Z a b c:List AV}(hZ:Z.length=54)(ha:a.length=18)(hb:b.length=18)(hc:c.length=18):
 (if 18<=Z.length then if 36<=(a++Z.drop 18).length then if 54<=((a++Z.drop 18).take 18++b++(a++Z.drop 18).drop 36).length then
   some (((a++Z.drop 18).take 18++b++(a++Z.drop 18).drop 36).take 36++c++((a++Z.drop 18).take 18++b++(a++Z.drop 18).drop 36).drop 54) else none else none else none)=some (a++(b++c)):=by
 have e1:(a++Z.drop 18).take 18=a:=by rw[Cx A0,Bb A0]
 have e2:(a++Z.drop 18).drop 36=Z.drop 36:=by rw[Fq,Bo A0,ha,Jt,Er]
 rw[e1,e2];have l1:(a++b).length=36:=by simp[ha,hb]
 have e3:(a++b++Z.drop 36).take 36=a++b:=by rw[Cx A0,Bb A0]
 have e4:(a++b++Z.drop 36).drop 54=[]:=Bo (by simp[ha,hb,hZ]);rw[e3,e4,if_pos A0,if_pos (by simp[ha,hZ]),if_pos (by simp[ha,hb,hZ]),Cr,Dx]
theorem CD{v:aD.V}(hv:∀i,CU (v.at i))(H:aA):Sg 189 [.agg (cE v)] H (.ret (.agg (c3 fun i=>cI (v.at i)))) H:=by refine Sp bBg Zah Za5 ?_ H;unfold aQa;dsimp only;have o0:∀H,Sg 59 [.int .i64 v.x] H (.ret (.agg (cI v.x))) H:=vU (hv 0).1 (hv 0).2;have o1:∀H,Sg 59 [.int .i64 v.y] H (.ret (.agg (cI v.y))) H:=vU (hv 1).1 (hv 1).2;have o2:∀H,Sg 59 [.int .i64 v.z] H (.ret (.agg (cI v.z))) H:=vU (hv 2).1 (hv 2).2;refine bX ?_;refine Ty ?_;refine gG ?_;refine Dz ?_;simp only[↓zP,zJ,seval,zD,pZ,cE,vF];refine dM (o0 _) ?_;simp only[↓zP,zJ,seval,zD,pZ];refine dM (o1 _) ?_;simp only[↓zP,zJ,seval,zD,pZ];refine dM (o2 _) ?_;simp only[↓zP,zJ,seval,zD];rw[aAv (fI fun _ _=>cJ 0) (cJ _) (cJ _) (cJ _)];have hr:cI v.x++(cI v.y++cI v.z)=c3 fun i=>cI (v.at i):=rfl;rw[hr];have hl:(c3 fun i=>cI (v.at i)).length=54:=fI fun _ _=>cJ _;have hz:(c3 fun _=>cI 0).length=54:=fI fun _ _=>cJ _;simp only[zJ,seval,zD,oL hl,oL hz];refine bY ?_;refine Tx ?_;refine⟨rfl,_,by simp only[↓zP,zR,seval,oL hl];rfl,?_⟩;rfl
end Go.Proofs.YtogfcjbgeebfkaaGreatDoor
namespace Go.Proofs.YtogfcjbgeebfkaaGreatDoor
open Go Go.Av
def aQy:CW Tryz.f226:=⟨_,KO⟩
theorem bCe:Fi 226 aQy:=dC Tryz.func226 aQy
end Go.Proofs.YtogfcjbgeebfkaaGreatDoor
namespace Go.Proofs.YtogfcjbgeebfkaaGreatDoor
open Go Go.Av Go.lP
attribute [local congr] aY aS aV aQ bD aX aW aH bE
attribute [local irreducible] FC bT eX
def nC(o:List Nat):List AV:=o.map fun(k:Nat)=>AV.int .i64 (k:Int)
theorem Pd(o:List Nat):(nC o).length=o.length:=Ai _
theorem UH{o:List Nat}{k:Nat}(h:k<o.length):(nC o).getD k aB=.int .i64 (o.getD k 0:Nat):=by unfold nC;rw[List.getD,Ci,Ac h,List.getD,Ac h];rfl
theorem aCu{o:List Nat}{k:Nat}(h:k<o.length)(x:Nat):(nC o).take k++[AV.int .i64 (x:Int)]++(nC o).drop (k+1)=nC (o.set k x):=by unfold nC;rw[List.map_set,List.set_eq_take_append_cons_drop,if_pos (by rw[Ai];exact h)];simp
theorem ik:∀o:List Nat,cM (nC o)=true
 |[]=>rfl
 |x::o=>ik o
theorem VS:∀{o:List Nat} {m:Nat},m<=o.length->fK 1 m (nC o)=nE (o.take m)
 |_,0,_=>rfl
 |x::o,m+1,h=>by have :=VS (o:=o) (m:=m) Zay;simp only[nC,Cq,fK,nE,Ds,Fe,Ig,Ej] at this ⊢;rw[this]
theorem aLh{H2:aA}{id m cap:Nat}{o:List Nat}{eB:Bool}(hg:H2.get id=some (.cells (nC o) eB))(hm:m<=o.length)(nw:Nat):gT H2 none nw 0 (.sl id 1 0 m cap)=some (.bC 0 1 (nE (o.take m))):=by
 have hc:H2.eG id=some (nC o):=by simp[aA.eG,hg]
 have hl:Nat.ble (0+m*1) (nC o).length=true:=by rw[Pd];simpa using hm
 simp only[gT,kT,hc,Ej,hl,ik,Du,VS hm]
theorem QT(o:List Nat):o.take (nX o).length=nX o:=by
 have h:∀n,n<=o.length->(∀k,n<=k->k<o.length->o.getD k 0=0)->∃m,m<=o.length/\(∀k,m<=k->k<o.length->o.getD k 0=0)/\(m=0\/o.getD (m -1) 0≠0):=by
  intro n
  induction n with
  |zero=>intro h1 h2;exact⟨0,h1,h2,.inl rfl⟩
  |succ n ih=>
   intro h1 h2;by_cases h0:o.getD n 0=0
   . exact ih A0 fun k h3 h4=>by
      by_cases e:k=n
      . subst e;exact h0
      exact h2 k A0 h4
   exact⟨n+1,h1,h2,.inr h0⟩
 obtain⟨m,h1,h2,h3⟩:=h o.length (Ag _) fun k h1 h2=>by omega
 have e:=qQ h1 h2 h3;rw[<-e,Dp,Ji h1]
theorem aXj{o:List Nat}(hlen:o.length<2^30)(h0:0<o.length){id:Nat}{H:aA}(hg:H.get id=some (.cells (nC o) false)):Sg 207 [.sl id 1 0 o.length o.length] H (.ret (.sl id 1 0 (nX o).length o.length)) H:=by
 refine mA aNp (Al rfl) ?_;unfold aGq;dsimp only;refine Ty ?_;refine aP ?_;refine iA [3] (fun n vs H'=>H'=H/\vs=[.int .i64 n]/\n<=o.length/\∀k,n<=k->k<o.length->o.getD k 0=0) o.length (by rfl) ?_ ?_
 . exact⟨rfl,by simp only[sm,zB,seval],Ag _,fun k h1 h2=>absurd h2 A0⟩
 rintro n f H1 hk ⟨rfl,hv,hn,hz⟩;simp only[zM] at hv;have f0:f 0=.sl id 1 0 o.length o.length:=hk 0 rfl
 have Ut:pX 1 (.sl id 1 0 o.length o.length) none (some n) none=some (.sl id 1 0 n o.length):=by simp only[pX,Eb,Bl];rw[if_pos ⟨trivial,Bp _⟩,if_pos hn,if_neg A0];rfl
 have GC:(n=0\/o.getD (n -1) 0≠0)->n=(nX o).length:=fun h=>by rw[<-qQ hn hz h,Dp,Ji hn]
 by_cases Qk:n=0
 . have hd:decide ((n:Int)>0)=false:=Ad A0;have e:=GC (.inl Qk);simp only[↓zP,zJ,seval,hv,hd,f0,dV,aG,Ut,Br,An];refine Rx ?_;exact⟨by rw[e];rfl,rfl⟩
 have hd:decide ((n:Int)>0)=true:=Aj A0;have w1:IntKind.i64.wrap ((n:Int) -1)=((n -1:Nat):Int):=wI A0;have AD:n -1<o.length:=by omega
 have SI:=UH AD;by_cases Lo:o.getD (n -1) 0=0
 . have hb:(((o.getD (n -1) 0:Nat):Int)==0)=true:=by rw[Lo];rfl
   simp only[↓zP,zJ,seval,hv,hd,f0,w1,aG,Pd,AD,hg,SI,hb,show n -1+1<=o.length by omega];refine aP ?_;simp only[↓zP,zG,seval,hv,w1];refine⟨n -1,by omega,trivial,rfl,by omega,fun k h1 h2=>?_⟩;by_cases e:k=n -1
   . subst e;exact Lo
   exact hz k A0 h2
 have hb:(((o.getD (n -1) 0:Nat):Int)==0)=false:=by rw[Dr];omega
 have e:=GC (.inr Lo);simp only[↓zP,zJ,seval,hv,hd,f0,w1,aG,Pd,AD,hg,SI,hb,dV,Ut,Br,An,show n -1+1<=o.length by omega];refine Rx ?_;exact⟨by rw[e];rfl,rfl⟩
theorem aEb:∀n:Nat,(List.replicate n [AV.int .i64 0]).flatten=nC (List.replicate n 0)
 |0=>rfl
 |n+1=>by have :=aEb n;simp only[Fj,Cd,nC,Cq,List.singleton_append] at this ⊢;rw[this];rfl
theorem XR:∀n:Nat,bZ (List.replicate n 0)=0
 |0=>rfl
 |n+1=>by rw[Fj];simp only[bZ,XR n]
theorem QV:∀{l:List Nat} {i:Nat} (h:i<l.length) (y:Nat),bZ (l.set i y)+65536^i*l.getD i 0=bZ l+65536^i*y
 |d::l,0,_,y=>by simp[bZ];omega
 |d::l,i+1,h,y=>by have :=QV (l:=l) (i:=i) Zay y;simp only[List.set_cons_succ,bZ,Et,Cw];rw[Bx (65536^i) 65536,Bv,Bv];generalize 65536^i*l.getD i 0=p at *;generalize 65536^i*y=q at *;omega
theorem YQ{o:List Nat}{k c T:Nat}(hk:k<o.length)(h:bZ o+65536^k*c=T):
 bZ (o.set k ((o.getD k 0+c)%65536))+65536^(k+1)*((o.getD k 0+c) / 65536)=T:=by
 have h1:=QV hk ((o.getD k 0+c)%65536)
 have h2:65536^k*((o.getD k 0+c)%65536)+65536^k*(65536*((o.getD k 0+c) / 65536))=65536^k*o.getD k 0+65536^k*c:=by rw[<-Da,<-Da,Jg]
 rw[Cw,Bv];omega
theorem Pc{o:List Nat}{a b:List Nat}{i k T:Nat}(hk:i+k<o.length)(hb:k<b.length)(h:bZ o=T+65536^i*(a.getD i 0*bZ (b.take k))):
 bZ (o.set (i+k) (o.getD (i+k) 0+a.getD i 0*b.getD k 0))=T+65536^i*(a.getD i 0*bZ (b.take (k+1))):=by
 have h1:=QV hk (o.getD (i+k) 0+a.getD i 0*b.getD k 0);rw[xZ hb,Da (a.getD i 0),Da (65536^i),<-Bh,<-h]
 have h2:65536^(i+k)*(o.getD (i+k) 0+a.getD i 0*b.getD k 0)=65536^(i+k)*o.getD (i+k) 0+65536^i*(a.getD i 0*(65536^k*b.getD k 0)):=by rw[Da,Ez,It (a.getD i 0),Bv,Bv]
 omega
theorem aKs{a b:List Nat}(ha:DD a)(hb:DD b){i:Nat}(hi:i<=a.length):bZ (a.take i)*bZ b<65536^(a.length+b.length+1):=by have h1:=mY ha hi;have h2:=mY hb (Ag b.length);rw[Ay] at h2;have h3:65536^i<=65536^a.length:=Ck A1 hi;have h4:=Hb h1 h2;have h5:=Bq (65536^b.length) h3;rw[<-Ez 65536 a.length] at h5;rw[Cw];omega
theorem aLf{a b:List Nat}(ha:DD a)(hb:DD b)(wa:a.length<2^20)(o7:b.length<2^20)(H:aA):Sg 226 [.bC 0 1 (nE a),.bC 0 1 (nE b)] H (.ret (.bC 0 1 (nE (dg (bZ a*bZ b))))) H:=by
 refine eS fit eC bCe (Al rfl) (by simp only[sf,SB]) ?_ H;unfold aQy;dsimp only;obtain⟨n,hn⟩:∃n,n=a.length+b.length+1:=⟨_,rfl⟩;have w1:IntKind.i64.wrap ((a.length:Int)+(b.length:Int))=((a.length+b.length:Nat):Int):=wI A0;have w2:IntKind.i64.wrap (((a.length+b.length:Nat):Int)+1)=(n:Int):=wI A0;simp only[↓zP,zJ,seval,dJ,w1,w2,aG,show 8*n<=1099511627776 by omega,aEb];refine cP [] (fun i _ H'=>∃o,H'.get 0=some (.cells (nC o) false)/\o.length=n/\DD o/\bZ o=bZ (a.take i)*bZ b) 0 a.length (Bp _) A0 A1 ?_ ?_ ?_ ?_ ?_
 . exact zq
 . exact⟨List.replicate n 0,by simp only[zI,seval],by simp,fun d hd=>by rw[Gy hd];decide,by rw[XR,Fe];simp[bZ]⟩
 . rintro i f H1 h0 hi hk e1 _;have f0:f 0=.bC 0 1 (nE a):=hk 0 rfl;simp only[↓zP,zG,seval,e1,f0,dJ];exact tB A0
 . rintro i f H1 h0 hi hk e1 ⟨o,g0,ol,hd,hv⟩;have f0:f 0=.bC 0 1 (nE a):=hk 0 rfl;have f1:f 1=.bC 0 1 (nE b):=hk 1 rfl;have f5:f 5=.sl 0 1 0 n n:=hk 5 rfl;have hai:=ha.getD i;have hni:(nE a).getD i []=[.int .i64 (a.getD i 0:Nat)]:=by rw[JO hi,lE hi]
   have hT:bZ (a.take (i+1))*bZ b=bZ o+65536^i*(a.getD i 0*bZ b):=by rw[xZ hi,Bi,Bv,hv]
   have dT:=aKs ha hb (i:=i+1) hi;rw[<-hn] at dT;refine aP ?_;refine aT fun K hK=>?_;refine Tz ?_;refine cP [] (fun k _ H'=>∃o',H'.get 0=some (.cells (nC o') false)/\o'.length=n/\(∀j,o'.getD j 0<2^33)/\(∀j,i+k<=j->o'.getD j 0<65536)/\bZ o'=bZ o+65536^i*(a.getD i 0*bZ (b.take k))) 0 b.length (Bp _) A0 A1 ?_ ?_ ?_ ?_ ?_
   . exact zq
   . exact⟨o,g0,ol,fun j=>by have :=hd.getD j;omega,fun j _=>hd.getD j,by rw[Fe];simp[bZ]⟩
   . rintro k f2 H2 _ Xn eW e2 _;have q1:f2 1=.bC 0 1 (nE b):=(eW 1 rfl).trans f1;simp only[↓zP,zG,seval,e2,q1,dJ];exact tB A0
   . rintro k f2 H2 _ Xn eW e2 ⟨o',g2,ol',rP,wV,lB⟩;have q0:f2 0=.bC 0 1 (nE a):=(eW 0 rfl).trans f0;have q1:f2 1=.bC 0 1 (nE b):=(eW 1 rfl).trans f1;have q5:f2 5=.sl 0 1 0 n n:=(eW 5 rfl).trans f5;have q6:f2 6=.int .i64 i:=(eW 6 rfl).trans e1;have hbk:=hb.getD k;have hnk:(nE b).getD k []=[.int .i64 (b.getD k 0:Nat)]:=(by rw[JO Xn,lE Xn]);have HH:i+k<o'.length:=A0;have LV:=UH HH;have hx:=wV (i+k) (Ag _);have hms:=Pc (a:=a) HH Xn lB;have Mf:=aCu HH (o'.getD (i+k) 0+a.getD i 0*b.getD k 0);have hp:a.getD i 0*b.getD k 0<=65535*65535:=Ba A0 A0;have nB:(o'.set (i+k) (o'.getD (i+k) 0+a.getD i 0*b.getD k 0)).length=n:=by rw[Ii,ol']
     have cG:∀y j,j≠i+k->(o'.set (i+k) y).getD j 0=o'.getD j 0:=fun y j h=>by rw[List.getD,Jd (Ne.symm h),<-List.getD]
     have heq:∀y,(o'.set (i+k) y).getD (i+k) 0=y:=fun y=>by rw[List.getD,Kk HH,Bl]
     have nol:(nC o').length=n:=(by rw[Pd,ol']);generalize o'.getD (i+k) 0=x at *;generalize a.getD i 0=u at *;generalize b.getD k 0=v at *;have w3:IntKind.i64.wrap ((i:Int)+(k:Int))=((i+k:Nat):Int):=wI A0
     have w4:IntKind.i64.wrap ((u:Int)*(v:Int))=((u*v:Nat):Int):=by rw[<-Int.natCast_mul,wrap_i64 A0 A0]
     have w5:IntKind.i64.wrap ((x:Int)+((u*v:Nat):Int))=((x+u*v:Nat):Int):=wI A0;refine aP ?_;refine Dz ?_;simp only[↓zP,zJ,seval,zD,q0,q1,q5,q6,e2,w3,aG,g2,nol,show i+k<n by omega,show i+k+1<=n by omega,LV,hni,hnk,dJ,hi,Xn,w4,w5,Mf];refine⟨_,rfl,nB,fun j=>?_,fun j hj=>?_,hms⟩
     . by_cases e:j=i+k
       . subst e;rw[heq];omega
       rw[cG _ _ e];exact rP j
     rw[cG _ _ A0];exact wV j A0
   rintro f2 H2 eW ⟨o',g2,ol',rP,wV,lB⟩;rw[Ay,<-hT] at lB;have q5:f2 5=.sl 0 1 0 n n:=(eW 5 rfl).trans f5;clear wV;refine Tx ?_;apply hK;clear hK K;refine bX ?_;refine Tz ?_;refine bY ?_;refine Tz ?_;refine cP [8] (fun k vs H'=>∃(o:List Nat) (c:Nat),vs=[.int .i64 c]/\H'.get 0=some (.cells (nC o) false)/\o.length=n/\bZ o+65536^k*c=bZ (a.take (i+1))*bZ b/\c<2^20/\(∀j,o.getD j 0<2^33)/\∀j,j<k->o.getD j 0<65536) 0 n (Bp _) A0 A1 ?_ ?_ ?_ ?_ ?_
   . exact zq
   . exact⟨_,0,by simp only[sm,zB,seval],g2,ol',by rw[lB];rfl,by decide,rP,fun j hj=>absurd hj (Ar _)⟩
   . rintro k f3 H3 _ kR aUc e3 _;have p5:f3 5=.sl 0 1 0 n n:=(by rw[aUc 5 rfl];simp only[zB,seval,q5]);simp only[↓zP,zG,seval,e3,p5];exact tB A0
   . rintro k f3 H3 _ kR aUc e3 ⟨o2,c,nQ,g3,ol3,hT3,hc,hb3,hd3⟩;simp only[zM] at nQ;have p5:f3 5=.sl 0 1 0 n n:=(by rw[aUc 5 rfl];simp only[zB,seval,q5]);have Us:k<o2.length:=A0;have hg3:=UH Us;have fA:=YQ Us hT3;have hb:=hb3 k;have bLb:(nC o2).length=n:=(by rw[Pd,ol3]);have bHh:=aCu Us ((o2.getD k 0+c)%65536)
     have bGx:∀j,(o2.set k ((o2.getD k 0+c)%65536)).getD j 0<2^33:=fun j=>by
      by_cases e:j=k
      . subst e;rw[List.getD,Kk Us,Bl];omega
      rw[List.getD,Jd (Ne.symm e),<-List.getD];exact hb3 j
     have bHj:∀j,j<k+1->(o2.set k ((o2.getD k 0+c)%65536)).getD j 0<65536:=fun j hj=>by
      by_cases e:j=k
      . subst e;rw[List.getD,Kk Us,Bl];omega
      rw[List.getD,Jd (Ne.symm e),<-List.getD];exact hd3 j A0
     have hls:(o2.set k ((o2.getD k 0+c)%65536)).length=n:=(by rw[Ii,ol3]);generalize o2.getD k 0=x at *;have v1:IntKind.i64.wrap ((x:Int)+(c:Int))=((x+c:Nat):Int):=wI A0;have v2:((x+c:Nat):Int).tmod 65536=(((x+c)%65536:Nat):Int):=(by rw[Fg A0];omega);have v3:IntKind.i64.wrap (((x+c:Nat):Int).tdiv 65536)=(((x+c) / 65536:Nat):Int):=(by rw[Gj A0,wrap_i64 A0 A0];omega);refine aP ?_;simp only[↓zP,zJ,seval,p5,e3,nQ,aG,kR,g3,bLb,show k+1<=n by omega,hg3,v1,v2,v3,bHh];exact⟨_,(x+c) / 65536,rfl,rfl,hls,fA,by omega,bGx,bHj⟩
   rintro f3 H3 kR ⟨o2,c,nQ,g3,ol3,hT3,hc,hb3,hd3⟩
   have om:c=0:=by
    rcases Ho c with h|h
    . exact h
    have :65536^n*1<=65536^n*c:=Dj _ h;omega
   subst om;refine⟨o2,g3,ol3,fun d hd=>?_,by rw[<-hT3];rfl⟩;obtain⟨j,hj,rfl⟩:=Dt hd;have :=hd3 j A0
   rwa [lE hj] at this
 rintro f H1 hk ⟨o,g0,ol,hd,hv⟩;have f5:f 5=.sl 0 1 0 n n:=hk 5 rfl;have ht:=aXj A0 A0 g0;have hs:=aLh (cap:=n) g0 (Uj o);rw[QT] at hs;rw[Ay] at hv;rw[ol] at ht;rw[CN hd,hv] at ht hs;simp only[↓zP,seval,f5];refine bO (ht) ?_;refine Tz ?_;refine Rx ?_;exact⟨_,0,rfl,hs⟩
theorem aXk(x y:Int):sg (decide (x<0) != decide (y<0)) (x.natAbs*y.natAbs)=x*y:=by
 rw[<-Ex];unfold sg;by_cases h1:x<0<;>by_cases h2:y<0
 . simp[h1,h2];have :=Gl h1 h2;omega
 . simp[h1,h2];have :=Ec (a:= -x) (b:=y) A0 A0;rw[Hh] at this;omega
 . simp[h1,h2];have :=Ec (a:=x) (b:= -y) A0 A0;rw[Jf] at this;omega
 simp[h1,h2];have :=Ec (a:=x) (b:=y) A0 A0;omega
theorem aCo{x y:Int}(hx:x.natAbs<2^62)(hy:y.natAbs<2^62):(x*y).natAbs<W^16:=by
 rw[Ex];have :=Hb hx hy;have e:(2:Nat)^62*2^62<W^16:=by decide
 omega
theorem Zp{x y:Int}(hx:x.natAbs<2^62)(hy:y.natAbs<2^62)(H:aA):Sg 173 [.agg (cI x),.agg (cI y)] H (.ret (.agg (cI (x*y)))) H:=by
 by_cases hsm:x.natAbs<2^31/\y.natAbs<2^31
 . exact GU hsm.1 hsm.2 H
 have hh:(decide (x<2147483648)&&decide (x> -2147483648))=true->(decide (y<2147483648)&&decide (y> -2147483648))=false:=fun h=>by rw[Ak,Bf,Bf] at h;rw[Ix,Cb,Cb];omega
 refine Sp aNi Zak Zat ?_ H;unfold aGj;dsimp only;have hfx:=Vn hx;have hfy:=Vn hy;have gx:=pU (dS.enc hfx);have gy:=pU (dS.enc hfy);have dx:=oK false (decide (x<0)) (.aL x.natAbs);have dy:=oK false (decide (y<0)) (.aL y.natAbs);have ht:=aLf (zL x.natAbs) (zL y.natAbs) (by have :=mF.2 hfx;omega) (by have :=mF.2 hfy;omega);have hn:=tW (decide (x<0) != decide (y<0)) 0 (zL (x.natAbs*y.natAbs)) (by have :=mF.2 (show x.natAbs*y.natAbs<W^16 by rw[<-Ex];exact aCo hx hy);omega);rw[qY,aXk,BX (aCo hx hy)] at hn;rw[show(decide (x<0) != decide (y<0))= !(decide (x<0)==decide (y<0)) from rfl] at hn;rw[eD hfx] at dx;rw[eD hfy] at dy;rw[qY,qY] at ht;have hcx:AV.bool false::AV.bool (decide (x<0))::wC (aL 16 x.natAbs)=cI x:=rfl;have hcy:AV.bool false::AV.bool (decide (y<0))::wC (aL 16 y.natAbs)=cI y:=rfl;rw[hcx] at dx;rw[hcy] at dy;have h1:(cI x).getD 1 aB=.bool (decide (x<0)):=rfl;have h2:(cI y).getD 1 aB=.bool (decide (y<0)):=rfl;have px:=QD x;have py:=QD y;generalize (decide (x<2147483648)&&decide (x> -2147483648))=bx at *;generalize (decide (y<2147483648)&&decide (y> -2147483648))=by' at *;refine bX ?_;refine Ty ?_;refine gG ?_;refine Ty ?_;refine bO (nS hx _) ?_;refine Ty ?_;refine gG ?_;refine Ty ?_;refine bO (nS hy _) ?_;refine Ty ?_;refine bY ?_;refine aT fun K hK=>?_
 have key:∀f:cW,f 2=.ref 0 0->f 3=.ref 1 0->f 4=.ref 2 0->K f [] ((({next:=0,tr:=Tr.nil}:aA).alloc (eY.cells (cI x) false)).alloc (eY.cells (cI y) false) |>.alloc (eY.cells (AV.bool false::AV.bool false::wC zs) false)):=by intro f f2 f3 f4;apply hK;clear hK K;refine bX ?_;simp only[↓zP,zJ,seval,f2];refine bO (gx _) ?_;simp only[An];simp only[↓zP,zJ,seval,f3];refine bO (gy _) ?_;simp only[An];refine Ty ?_;refine gG ?_;refine Dz ?_;simp only[↓zP,zJ,seval,zD,f2,f3,h1,h2];refine dM (dx _) ?_;simp only[↓zP,zJ,seval,zD,f3];refine dM (dy _) ?_;simp only[seval];refine dM (ht _) ?_;simp only[seval];refine dM (hn _) ?_;simp only[cO];simp only[↓zP,zJ,seval,zD,f4];refine bY ?_;refine Tx ?_;refine⟨rfl,_,by simp only[↓zP,zR,seval,f4];rfl,?_⟩;rfl
 clear hK;refine Tz ?_;refine bO (px _) ?_
 cases bx with
 |true=>obtain rfl:=hh rfl;refine Tz ?_;refine bO (py _) ?_;refine Tz ?_;exact key _ zq zq zq
 |false=>refine Tz ?_;exact key _ zq zq zq
end Go.Proofs.YtogfcjbgeebfkaaGreatDoor
namespace Go.Proofs.YtogfcjbgeebfkaaGreatDoor
open Go Go.Av Go.aD Go.lP
attribute [local congr] aY aS aV aQ bD aX aW aH bE
attribute [local irreducible] FC bT eX
theorem aOa{x y:Int}(hx:x.natAbs<2^31)(hy:y.natAbs<2^31):(x*y).natAbs<2^62:=by
 rw[Ex];have :=Hb hx hy;have e:(2:Nat)^31*2^31=2^62:=by decide
 omega
theorem MC{a b c d:Int}(ha:a.natAbs<2^31)(hb:b.natAbs<2^31)(hc:c.natAbs<2^31)(hd:d.natAbs<2^31)(H:aA):Sg 245 [.agg (cI a),.agg (cI b),.agg (cI c),.agg (cI d)] H (.ret (.agg (cI (a*b -c*d)))) H:=by refine Sp bCq Zak Zat ?_ H;unfold aRk;dsimp only;have m1:=GU ha hb;have m2:=GU hc hd;have m3:=Zr (aOa ha hb) (aOa hc hd);generalize a*b=p at *;generalize c*d=q at *;refine bX ?_;refine Ty ?_;refine gG ?_;refine Dz ?_;simp only[↓zP,zJ,seval,zD];refine dM (m1 _) ?_;simp only[↓zP,zJ,seval,zD];refine dM (m2 _) ?_;simp only[seval];refine dM (m3 _) ?_;simp only[↓zP,zJ,seval,zD];refine bY ?_;refine Tx ?_;refine Rx ?_;rfl
theorem Nc(c:Nat->List AV)(h:∀i,i<3->(c i).length=18):(c3 c).length=54/\(c3 c).take 18=c 0/\((c3 c).drop 18).take 18=c 1/\((c3 c).drop 36).take 18=c 2:=
 ⟨fI h,pG h (i:=0) A1,pG h (i:=1) A1,pG h (i:=2) A1⟩
theorem si{v w:aD.V}{A B:Nat}(hv:bL A v)(hw:bL B w)(hA:A<2^62)(hB:B<2^62)(hs:3*(A*B)<2^62)(H:aA):Sg 269 [.agg (c3 fun i=>cI (v.at i)),.agg (c3 fun i=>cI (w.at i))] H (.ret (.agg (cI (aD.dot v w)))) H:=by refine Sp bDh (by simp only[sf,iI fun i _=>cK _]) Zat ?_ H;unfold aSb;dsimp only;have bv:=fun i=>bL.c hv i;have bw:=fun i=>bL.c hw i;have Qg:=bS hv.1 hw.1;have rP:=bS hv.2.1 hw.2.1;have wV:=bS hv.2.2 hw.2.2;have m0:∀H,Sg 173 [.agg (cI (v.at 0)),.agg (cI (w.at 0))] H (.ret (.agg (cI (v.x*w.x)))) H:=Zp (by have :=bv 0;omega) (by have :=bw 0;omega);have m1:∀H,Sg 173 [.agg (cI (v.at 1)),.agg (cI (w.at 1))] H (.ret (.agg (cI (v.y*w.y)))) H:=Zp (by have :=bv 1;omega) (by have :=bw 1;omega);have m2:∀H,Sg 173 [.agg (cI (v.at 2)),.agg (cI (w.at 2))] H (.ret (.agg (cI (v.z*w.z)))) H:=Zp (by have :=bv 2;omega) (by have :=bw 2;omega);have a1:=GS (x:=v.x*w.x) (y:=v.y*w.y) A0 A0;have a2:=GS (x:=v.x*w.x+v.y*w.y) (y:=v.z*w.z) A0 A0;have e:v.x*w.x+v.y*w.y+v.z*w.z=aD.dot v w:=rfl;rw[e] at a2;have lv:=Nc (fun i=>cI (v.at i)) (fun i _=>cJ _);have lw:=Nc (fun i=>cI (w.at i)) (fun i _=>cJ _);refine bX ?_;refine Ty ?_;refine gG ?_;simp only[↓zP,zJ,seval,pZ,lv,lw];refine bO (m0 _) ?_;refine Ty ?_;refine gG ?_;refine Dz ?_;simp only[↓zP,zJ,seval,zD,pZ,lv,lw];refine dM (m1 _) ?_;simp only[seval];refine dM (a1 _) ?_;simp only[↓zP,zJ,seval,zD];refine gG ?_;refine Dz ?_;simp only[↓zP,zJ,seval,zD,pZ,lv,lw];refine dM (m2 _) ?_;simp only[seval];refine dM (a2 _) ?_;simp only[↓zP,zJ,seval,zD];refine bY ?_;refine Tx ?_;refine Rx ?_;rfl
theorem Wr{v w:aD.V}{A B:Nat}(hv:bL A v)(hw:bL B w)(hA:A<2^31)(hB:B<2^31)(H:aA):Sg 188 [.agg (c3 fun i=>cI (v.at i)),.agg (c3 fun i=>cI (w.at i))] H (.ret (.agg (c3 fun i=>cI ((aD.aU v w).at i)))) H:=by refine Sp bBf (by simp only[sf,iI fun i _=>cK _]) Za5 ?_ H;unfold aPz;dsimp only;have bv:=fun i=>bL.c hv i;have bw:=fun i=>bL.c hw i;have m0:∀H,Sg 245 [.agg (cI (v.at 1)),.agg (cI (w.at 2)),.agg (cI (v.at 2)),.agg (cI (w.at 1))] H (.ret (.agg (cI ((aD.aU v w).at 0)))) H:=MC (by have :=bv 1;omega) (by have :=bw 2;omega) (by have :=bv 2;omega) (by have :=bw 1;omega);have m1:∀H,Sg 245 [.agg (cI (v.at 2)),.agg (cI (w.at 0)),.agg (cI (v.at 0)),.agg (cI (w.at 2))] H (.ret (.agg (cI ((aD.aU v w).at 1)))) H:=MC (by have :=bv 2;omega) (by have :=bw 0;omega) (by have :=bv 0;omega) (by have :=bw 2;omega);have m2:∀H,Sg 245 [.agg (cI (v.at 0)),.agg (cI (w.at 1)),.agg (cI (v.at 1)),.agg (cI (w.at 0))] H (.ret (.agg (cI ((aD.aU v w).at 2)))) H:=MC (by have :=bv 0;omega) (by have :=bw 1;omega) (by have :=bv 1;omega) (by have :=bw 0;omega);generalize aD.aU v w=u at *;have lv:=Nc (fun i=>cI (v.at i)) (fun i _=>cJ _);have lw:=Nc (fun i=>cI (w.at i)) (fun i _=>cJ _);have hl:(c3 fun i=>cI (u.at i)).length=54:=fI fun _ _=>cJ _;have hz:(c3 fun _=>cI 0).length=54:=fI fun _ _=>cJ _;refine bX ?_;simp only[↓zP,zJ,seval,vF];refine gG ?_;refine Dz ?_;simp only[↓zP,zJ,seval,zD,pZ,lv,lw,vF];refine dM (m0 _) ?_;simp only[↓zP,zJ,seval,zD,pZ,lv,lw];refine dM (m1 _) ?_;simp only[↓zP,zJ,seval,zD,pZ,lv,lw];refine dM (m2 _) ?_;simp only[↓zP,zJ,seval,zD];rw[aAv (fI fun _ _=>cJ 0) (cJ _) (cJ _) (cJ _)];have hr:cI (u.at 0)++(cI (u.at 1)++cI (u.at 2))=c3 fun i=>cI (u.at i):=rfl;rw[hr];simp only[zJ,seval,zD,oL hl,oL hz];refine bY ?_;refine Tx ?_;refine⟨rfl,_,by simp only[↓zP,zR,seval,oL hl];rfl,?_⟩;rfl
theorem aLa{v w:aD.V}{A B:Nat}(hv:bL A v)(hw:bL B w)(hA:A<2^62)(hB:B<2^62)(hs:3*(A*B)<2^62)(H:aA):Sg 215 [.agg (cE v),.agg (cE w)] H (.ret (.agg (cI (aD.dot v w)))) H:=by
 have iv:∀i,CU (v.at i):=fun i=>by have :=bL.c hv i;unfold CU;omega
 have iw:∀i,CU (w.at i):=fun i=>by have :=bL.c hw i;unfold CU;omega
 refine Sp bBw Zah Zat ?_ H;unfold aQq;dsimp only;refine bX ?_;refine Ty ?_;refine gG ?_;refine Dz ?_;simp only[↓zP,zJ,seval,zD,oL (aM v)];refine dM (CD iv _) ?_;simp only[↓zP,zJ,seval,zD,oL (aM w)];refine dM (CD iw _) ?_;simp only[seval];refine dM (si hv hw hA hB hs _) ?_;simp only[↓zP,zJ,seval,zD];refine bY ?_;refine Tx ?_;exact ZaB
theorem rz{v w:aD.V}{A B:Nat}(hv:bL A v)(hw:bL B w)(hA:A<2^31)(hB:B<2^31)(H:aA):Sg 99 [.agg (cE v),.agg (cE w)] H (.ret (.agg (c3 fun i=>cI ((aD.aU v w).at i)))) H:=by
 have iv:∀i,CU (v.at i):=fun i=>by have :=bL.c hv i;unfold CU;omega
 have iw:∀i,CU (w.at i):=fun i=>by have :=bL.c hw i;unfold CU;omega
 refine Sp bKx Zah Za5 ?_ H;unfold W99;dsimp only;have hl:(c3 fun i=>cI ((aD.aU v w).at i)).length=54:=fI fun _ _=>cJ _;have hz:(c3 fun _=>cI 0).length=54:=fI fun _ _=>cJ _;refine bX ?_;simp only[↓zP,zJ,seval,vF];refine gG ?_;refine Dz ?_;simp only[↓zP,zJ,seval,zD,oL (aM v)];refine dM (CD iv _) ?_;simp only[↓zP,zJ,seval,zD,oL (aM w)];refine dM (CD iw _) ?_;simp only[seval];refine dM (Wr hv hw hA hB _) ?_;simp only[↓zP,zJ,seval,zD,oL hl,oL hz];refine bY ?_;refine Tx ?_;refine⟨rfl,_,by simp only[↓zP,zR,seval,oL hl];rfl,?_⟩;rfl
end Go.Proofs.YtogfcjbgeebfkaaGreatDoor
