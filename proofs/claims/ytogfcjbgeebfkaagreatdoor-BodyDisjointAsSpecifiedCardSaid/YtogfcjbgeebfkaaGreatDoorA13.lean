/-
  Part of the proof of statement 7
-/
import Derived.Test.YtogfcjbgeebfkaaGreatDoorA12
import Derived.Test.YtogfcjbgeebfkaaGreatDoorA06
set_option linter.unusedVariables false
set_option linter.unusedSimpArgs false
set_option maxRecDepth 100000
set_option maxHeartbeats 16000000
namespace Go.Proofs.YtogfcjbgeebfkaaGreatDoor
open Go Go.Av Go.aD
attribute [local congr] aY aS aV aQ bD aX aW aH bE
attribute [local irreducible] FC bT eX
theorem fX{x:Int}{B:Nat}(h:x.natAbs<=B)(hB:B<2^63):IntKind.i64.wrap x=x:=wrap_i64 A0 A0
theorem bL.c{A:Nat}{v:aD.V}(h:bL A v)(i:Nat):(v.at i).natAbs<=A:=by
 unfold V.at;split
 . exact h.1
 . exact h.2.1
 exact h.2.2
theorem IT{a b:aD.V}{A B:Nat}(ha:bL A a)(hb:bL B b)(hs:3*(A*B)<2^62)(H:aA):Sg 281 [.agg (cE a),.agg (cE b)] H (.ret (.int .i64 (aD.dot a b))) H:=by
 have h1:=bS ha.1 hb.1;have h2:=bS ha.2.1 hb.2.1;have h3:=bS ha.2.2 hb.2.2;have w1:=fX h1 A0;have w2:=fX h2 A0;have w3:=fX h3 A0;have w4:IntKind.i64.wrap (a.x*b.x+a.y*b.y)=a.x*b.x+a.y*b.y:=fX (B:=2*(A*B)) A0 A0;have w5:IntKind.i64.wrap (a.x*b.x+a.y*b.y+a.z*b.z)=a.x*b.x+a.y*b.y+a.z*b.z:=fX (B:=3*(A*B)) A0 A0;refine So bDn Zah ?_ H;unfold aSh;dsimp only;simp only[↓zP,zJ,seval,cE,pZ,w1,w2,w3,w4,w5]
 (refine Rx ?_;rfl)
theorem Ru{x y:Int}{M:Nat}(hx:x.natAbs<=M)(hy:y.natAbs<=M)(hM:M<2^61):IntKind.i64.wrap (x -y)=x -y:=fX (B:=2*M) A0 A0
theorem LU{a b:aD.V}{A B:Nat}(ha:bL A a)(hb:bL B b)(hs:A*B<2^61)(H:aA):Sg 214 [.agg (cE a),.agg (cE b)] H (.ret (.agg (cE (aD.aU a b)))) H:=by
 obtain⟨a1,a2,a3⟩:=ha;obtain⟨b1,b2,b3⟩:=hb;have w1:=fX (bS a2 b3) A0;have w2:=fX (bS a3 b2) A0;have w3:=fX (bS a3 b1) A0;have w4:=fX (bS a1 b3) A0;have w5:=fX (bS a1 b2) A0;have w6:=fX (bS a2 b1) A0;have w7:=Ru (bS a2 b3) (bS a3 b2) hs;have w8:=Ru (bS a3 b1) (bS a1 b3) hs;have w9:=Ru (bS a1 b2) (bS a2 b1) hs;refine So aNq Zah ?_ H;unfold aGr;dsimp only;simp only[zJ,seval,cE,pZ,w1,w2,w3,w4,w5,w6,w7,w8,w9]
 (refine Rx ?_;rfl)
theorem jz{a:aD.V}{A:Nat}(ha:bL A a)(hs:A<2^62)(H:aA):Sg 132 [.agg (cE a)] H (.ret (.agg (cE (aD.neg a)))) H:=by
 obtain⟨a1,a2,a3⟩:=ha;have w1:IntKind.i64.wrap (0 -a.x)= -a.x:=(fX (B:=A) A0 A0).trans A0;have w2:IntKind.i64.wrap (0 -a.y)= -a.y:=(fX (B:=A) A0 A0).trans A0;have w3:IntKind.i64.wrap (0 -a.z)= -a.z:=(fX (B:=A) A0 A0).trans A0;refine So bAe Zah ?_ H;unfold aOy;dsimp only;simp only[↓zP,zJ,seval,cE,pZ,w1,w2,w3]
 (refine Rx ?_;rfl)
theorem aLq{a b:aD.V}{A B:Nat}(ha:bL A a)(hb:bL B b)(hs:A+B<2^62)(H:aA):Sg 131 [.agg (cE a),.agg (cE b)] H (.ret (.agg (cE (aD.add a b)))) H:=by
 refine So bAd Zah ?_ H;unfold aOx;dsimp only;simp only[↓zP,zJ,seval,cE];refine fC [] (fun i _ H'=>H'.get 0=some (.cells ([0,1,2].map fun j=>if j<i then .int .i64 (a.at j+b.at j) else .int .i64 (a.at j)) false)/\H'.get 1=some (.cells (cE b) false)/\H'.get 2=some (.cells [.int .i64 0,.int .i64 0,.int .i64 0] false)) 3 A1 rfl A1 ?_ ?_ ?_ ?_
 . exact zq
 . simp only[seval,zI,Ar];exact⟨rfl,rfl,trivial⟩
 . rintro i f H hi hk e1 ⟨g0,g1,g2⟩;have hl:([0,1,2].map fun j=>if j<i then AV.int .i64 (a.at j+b.at j) else .int .i64 (a.at j)).length=3:=by simp
   have hg:([0,1,2].map fun j=>if j<i then AV.int .i64 (a.at j+b.at j) else .int .i64 (a.at j)).getD i aB=.int .i64 (a.at i):=by
    match i,hi with
    |0,_=>rfl
    |1,_=>rfl
    |2,_=>rfl
   have w:IntKind.i64.wrap (a.at i+b.at i)=a.at i+b.at i:=by have h1:=bL.c ha i;have h2:=bL.c hb i;exact fX (B:=A+B) A0 A0
   refine aP ?_;refine bX ?_;simp only[↓zP,zG,seval,e1];refine bY ?_;refine Dz ?_;generalize hc:([0,1,2].map fun j=>if j<i then AV.int .i64 (a.at j+b.at j) else .int .i64 (a.at j))=cs at *;simp only[↓zP,zJ,seval,zD,hk 2 rfl,hk 3 rfl,aG,hi,g0,g1,hl,hg,aM,jL b hi,w,show i+1<=3 by omega];subst hc;refine⟨?_,g2⟩
   match i,hi with
   |0,_=>rfl
   |1,_=>rfl
   |2,_=>rfl
 rintro f H hk ⟨g0,g1,g2⟩;simp only[↓zP,zJ,seval,hk 2 rfl,hk 4 rfl,g0,g2];exact⟨rfl,_,by simp only[↓zP,zR,seval,hk 4 rfl];rfl,rfl⟩
theorem VM(a b:aD.V):aD.add a (aD.neg b)=aD.sub a b:=by simp only[aD.add,aD.neg,aD.sub,Ju]
theorem KK{a b:aD.V}{A B:Nat}(ha:bL A a)(hb:bL B b)(hs:A+B<2^62)(H:aA):Sg 54 [.agg (cE a),.agg (cE b)] H (.ret (.agg (cE (aD.sub a b)))) H:=by refine Sp bKf Zah Zah ?_ H;unfold W54;dsimp only;refine Ty ?_;refine Dz ?_;simp only[↓zP,zJ,seval,zD,oL (aM a),oL (aM b)];refine dM (jz hb A0 _) ?_;simp only[seval];refine dM (aLq ha (JP hb) hs _) ?_;rw[VM];simp only[↓zP,zJ,seval,zD,oL (aM (aD.sub a b))];exact⟨rfl,_,by simp only[↓zP,zR,seval,oL (aM (aD.sub a b))];rfl,rfl⟩
theorem WI(a:Int)(H:aA):Sg 289 [.int .i64 a] H (.ret (.bool false)) H:=by
 refine So bDs Zac ?_ H;unfold aSm;dsimp only;simp only[↓zP,zJ,seval,Hv]
 (refine Rx ?_;rfl)
def uE(a b:Int):Int:=if a<b then -1 else if b<a then 1 else 0
theorem jA(a b:Int)(H:aA):Sg 251 [.int .i64 a,.int .i64 b] H (.ret (.int .i64 (uE a b))) H:=by
 refine So bCv Zac ?_ H;unfold aRp;dsimp only;refine Ty ?_;refine bO (WI a _) ?_;refine Ty ?_;refine bO (WI b _) ?_;refine Ty ?_;refine⟨fun h=>?_,fun h=>⟨fun h2=>?_,fun h2=>?_⟩⟩<;>refine Rx ?_<;>unfold uE
 . rw[if_pos A0];rfl
 . rw[if_neg A0,if_pos A0];rfl
 rw[if_neg A0,if_neg A0];rfl
def orZ(l:List Int):Int:=(l.find? (· ≠0)).getD 0
theorem yg(l:List Int)(hl:l.length<2^30)(H:aA):Sg 250 [.bC 1 1 (EN l)] H (.ret (.int .i64 (orZ l))) H:=by
 refine So bCu (by simp only[sf,II]) ?_ H;unfold aRo;dsimp only;refine bX ?_;refine Tz ?_;refine gG ?_;refine Tz ?_;refine bY ?_;refine aT fun K hK=>?_;refine bX ?_;refine Ty ?_;refine bY ?_;refine cC [] (fun i _ H=>∀x∈l.take i,x=0) l.length A0 A1 ?_ ?_ ?_ ?_ ?_
 . exact zq
 . simp only[zB,seval,yM]
 . intro x hx;simp at hx
 . intro i f H hi hk e1 hj;have hg:(EN l).getD i []=[.int .i64 l[i]]:=by simp[EN,List.getD,hi]
   refine aP ?_;by_cases hz:l[i]=0
   . simp only[↓zP,zJ,seval,e1,hk 6 rfl,hk 3 rfl,aG,yM,hi,hg,hz,show((0:Int) != 0)=false from rfl];intro x hx;rw[Ax,Aq] at hx
     rcases hx with hx|hx
     . exact hj x hx
     simp[hi] at hx;rw[hx,hz]
   have hb:(l[i] != 0)=true:=(by simpa using hz);simp only[↓zP,zJ,seval,e1,hk 6 rfl,hk 3 rfl,aG,yM,hi,hg,hb];refine Rx ?_
   have :l.find? (· ≠0)=some l[i]:=by
    conv=>lhs;rw[<-Ht i l]
    rw[List.find?_append,Jr.2 (fun x hx=>by simp[hj x hx]),Ef hi,List.find?_cons_of_pos (by simpa using hz)];rfl
   rw[orZ,this];rfl
 intro f H hk hj;rw[Ay] at hj;refine Tx ?_;apply hK;simp only[↓zP,zG,seval,hk 3 rfl];refine Rx ?_;have :l.find? (· ≠0)=none:=Jr.2 fun x hx=>by simp[hj x hx]
 rw[orZ,this];rfl
def jG(q:aD.V×Int):List AV:=[.int .i64 q.1.x,.int .i64 q.1.y,.int .i64 q.1.z,.int .i64 q.2]
theorem CA(q:aD.V×Int):cM (jG q)=true:=by simp only[jG,sf]
theorem aAy{a b:Int}{B:Nat}(ha:a.natAbs<=B)(hb:b.natAbs<=B)(hB:B<2^62)(H:aA):Sg 286 [.int .i64 a,.int .i64 b] H (.ret (.int .i64 (Int.gcd a b))) H:=by
 refine So bDr Zac ?_ H;unfold aSl;dsimp only;refine bX ?_;refine Tz ?_;refine bY ?_;refine aT fun K hK=>?_;refine aP (iA [0,1] (fun m vs _=>∃x y:Int,vs=[.int .i64 x,.int .i64 y]/\x.natAbs<=B/\y.natAbs<=B/\m=y.natAbs/\Int.gcd x y=Int.gcd a b) b.natAbs (by rfl) ?_ ?_)
 . exact⟨a,b,by simp only[sm,zB,seval,fO],ha,hb,rfl,rfl⟩
 rintro m f H hk ⟨x,y,hv,hx,hy,rfl,hg⟩;simp only[zM] at hv;obtain⟨h0,h1⟩:=hv;by_cases PE:y=0
 . subst PE;have hw:IntKind.i64.wrap (0 -x)= -x:=(fX (B:=B) A0 A0).trans A0;simp only[↓zP,zG,seval,h1,show((0:Int) != 0)=false from rfl];apply hK;simp only[↓zP,zG,seval,h0,hw];refine Rx ?_
   have PD:(Int.gcd a b:Int)=if -x>x then -x else x:=(by rw[<-hg,aIg]);rw[PD];rfl
 have rP:(y != 0)=true:=by simpa using PE
 simp only[↓zP,zG,seval,h1,rP];refine aP (VH A1 ?_);simp only[↓zP,zG,seval,zD,h0,h1];rw[if_neg PE]
 have dT:(x.tmod y).natAbs<y.natAbs:=by rw[natAbs_tmod];exact Bz _ A0
 simp only[zG,seval,zD];exact⟨_,dT,y,x.tmod y,by simp only[sm,zB,seval],hy,by omega,rfl,by rw[Vs,hg]⟩
theorem Vr{a b:Int}{B:Nat}(ha:a.natAbs<=B)(hb:b.natAbs<=B):Int.gcd a b<=B:=by
 unfold Int.gcd
 rcases Ho a.natAbs with h|h
 . rw[h,Nat.gcd_zero_left];exact hb
 exact By (Nat.gcd_le_left _ h) ha
def KI(a b c:aD.V):aD.V×Int:=let n:=gD (aD.aU (aD.sub b a) (aD.sub c a));(n,aD.dot n a)
theorem bg{a b c:aD.V}{M:Nat}(ha:bL M a)(hb:bL M b)(hc:bL M c)(hM:M<=2^18)(H:aA):Sg 246 [.agg (cE a),.agg (cE b),.agg (cE c)] H (.ret (.agg (jG (KI a b c)))) H:=by
 have hu:=fW hb ha;have hw:=fW hc ha;have hn:=iD hu hw;have hMM:(M+M)*(M+M)<=2^19*2^19:=Ba A0 A0;have aTm:2*((M+M)*(M+M))*M<=2^39*2^18:=Ba A0 A0;refine Sp bCr Zah (by simp only[sf,CA]) ?_ H;unfold aRl;dsimp only;refine bX ?_;refine Ty ?_;refine gG ?_;refine gZ 1 A1 (by simp only[pK,seval,zI,Option.isNone_none,Du]) fun H1 n1 e1=>?_;simp only[zI,seval] at n1 e1;simp only[↓zP,zJ,seval,zD,e1,oL (aM a),oL (aM b)];refine dM (KK hb ha A0 _) ?_;simp only[↓zP,zJ,seval,zD,e1,oL (aM a),oL (aM c)];refine dM (KK hc ha A0 _) ?_;simp only[seval];refine dM (LU hu hw A0 _) ?_;generalize hN:aD.aU (aD.sub b a) (aD.sub c a)=N at *;simp only[↓zP,zJ,seval,zD,n1,e1,oL (aM N)];refine bY ?_;generalize hB:2*((M+M)*(M+M))=B at *;generalize hX:(H1.set 4 _).set 4 _=H2;have g0:H2.get 0=some (.cells (cE a) false):=by subst hX;simp only[seval,zI,e1]
 have g3:H2.get 3=some (.cells [.int .i64 0,.int .i64 0,.int .i64 0,.int .i64 0] false):=by subst hX;simp only[seval,zI,e1]
 have g4:H2.get 4=some (.cells (cE N) false):=by subst hX;simp only[seval,zI]
 clear hX e1 n1
 have ZA:(Int.gcd N.x N.y:Int).natAbs<=B:=by rw[Cy];exact Vr hn.1 hn.2.1
 have hp:=tC hn;refine aT fun K hK=>?_;refine bX ?_;refine Dz ?_;simp only[↓zP,zJ,seval,zD,g4,pZ,cE];refine dM (aAy hn.1 hn.2.1 A0 _) ?_;simp only[↓zP,zJ,seval,zD,g4,pZ,cE];refine dM (aAy ZA hn.2.2 A0 _) ?_;simp only[↓zP,zJ,seval,zD,QW];refine bY ?_
 have fin:∀(f:cW) (H3:aA),f 3=.ref 0 0->f 6=.ref 3 0->f 7=.ref 4 0->H3.get 0=some (.cells (cE a) false)->H3.get 3=some (.cells [.int .i64 0,.int .i64 0,.int .i64 0,.int .i64 0] false)->H3.get 4=some (.cells (cE (gD N)) false)->K f [] H3:=by intro f H3 f3 f6 f7 g0 g3 g4;apply hK;clear hK K;refine bX ?_;refine Dz ?_;simp only[↓zP,zJ,seval,zD,f3,f7,g0,g4,oL (aM a),oL (aM (gD N))];refine dM (IT hp ha A0 _) ?_;simp only[↓zP,zJ,seval,zD,f6,g3,cE];refine bY ?_;refine Tx ?_;refine⟨rfl,_,by simp only[↓zP,zR,seval,f6];rfl,?_⟩;simp only[KI,hN,jG];rfl
 refine Tz ?_;refine⟨fun hgt=>?_,fun hle=>?_⟩
 . have cG:¬((fG N:Nat):Int)=0:=by omega
   have ep:=Si N;have q1:IntKind.i64.wrap (N.x.tdiv (fG N))=(gD N).x:=(by rw[fX (B:=B) (by have :=hp.1;rw[ep] at this;exact this) A0,ep]);have q2:IntKind.i64.wrap (N.y.tdiv (fG N))=(gD N).y:=(by rw[fX (B:=B) (by have :=hp.2.1;rw[ep] at this;exact this) A0,ep]);have q3:IntKind.i64.wrap (N.z.tdiv (fG N))=(gD N).z:=(by rw[fX (B:=B) (by have :=hp.2.2;rw[ep] at this;exact this) A0,ep]);refine Dz ?_;simp only[↓zP,zJ,seval,zD,g4,pZ,cE,cG,q1,q2,q3];apply fin<;>simp only[↓zP,zJ,seval,g0,g3,cE]
 have e1:gD N=N:=aDq A0
 apply fin<;>first|(simp only[↓zP,zG,seval];done)|(rw[e1];exact g4)|assumption
def bK(l:List aD.V):List (List AV):=l.map cE
theorem aR(l:List aD.V):(bK l).length=l.length:=by simp[bK]
theorem cH{l:List aD.V}{i:Nat}(h:i<l.length):(bK l).getD i []=cE l[i]:=fB h
theorem cF{tag:Nat}(ht:Nat.blt tag 2=true)(l:List aD.V):(AV.bC tag 3 (bK l)).free=true:=by simp only[AV.free,ht,Ct];exact dN bV l
def EC(l:List aD.V)(q:aD.V×Int):Bool:=l.all (fun v=>decide (aD.dot q.1 v<=q.2))&& !l.all (fun v=>aD.dot q.1 v==q.2)
theorem Zi{tag:Nat}(ht:Nat.blt tag 2=true){l:List aD.V}{M B:Nat}(hl:∀v∈l,bL M v)(hlen:l.length<2^30){q:aD.V×Int}(hq:bL B q.1)(hs:3*(B*M)<2^62)(H:aA):
 Sg 247 [.bC tag 3 (bK l),.agg (jG q)] H (.ret (.bool (EC l q))) H:=by
 refine So bCs (by simp only[sf,cF ht,CA]) ?_ H;unfold aRm;dsimp only;have p3:(jG q).length=4:=rfl;have p1:(jG q).take 3=cE q.1:=rfl;have p2:(jG q).getD 3 aB=.int .i64 q.2:=rfl;refine bX ?_;refine Ty ?_;refine gG ?_;refine Tz ?_;refine bY ?_;refine aT fun K hK=>?_;refine bX ?_;refine Ty ?_;refine bY ?_;refine cC [5] (fun i vs H=>vs=[.bool ((l.take i).all (fun v=>aD.dot q.1 v==q.2))]/\(∀v∈l.take i,aD.dot q.1 v<=q.2)/\1<=H.next/\H.get 0=some (.cells (jG q) false)) l.length A0 A1 ?_ ?_ ?_ ?_ ?_
 . exact zq
 . simp only[zB,seval,aR]
 . refine⟨by simp only[sm,zB,seval];rfl,fun v hv=>by simp at hv,by simp only[zI,seval],by simp only[seval,zI]⟩
 . rintro i f H hi hk e1 ⟨hv,hle,hn,g0⟩;simp only[zM] at hv
   have hx:∀v,v∈l.take (i+1)->v∈l.take i\/v=l[i]:=fun v hv=>by
    exact Zaq
   have fL:(l.take (i+1)).all (fun v=>aD.dot q.1 v==q.2)=((l.take i).all (fun v=>aD.dot q.1 v==q.2)&&(aD.dot q.1 l[i]==q.2)):=by rw[Ax,List.all_append];simp[hi]
   generalize hb:(l.take i).all (fun v=>aD.dot q.1 v==q.2)=b at *;have vP:=Ah hi;have hg:=cH hi;generalize wb:l[i]=x at *;have cG:¬(0=H.next):=A0;refine aP ?_;simp only[↓zP,zJ,seval,e1,hk 9 rfl,hk 3 rfl,aG,aR,hi,hg,oL (aM x),cG,g0,p3,p1];refine bO (IT hq (hl x vP) hs _) ?_;simp only[↓zP,zJ,seval,hk 3 rfl,cG,g0,p3,p2,hv];refine⟨fun h=>?_,fun h=>?_⟩
   . refine Rx ?_
     have :EC l q=false:=by simp only[EC,Ix];refine .inl ?_;rw[<-Fs,Bg];intro ha;have :=Ed (ha x vP);omega
     rw[this];rfl
   have ZD:∀v∈l.take (i+1),aD.dot q.1 v<=q.2:=fun v hv=>by
    rcases hx v hv with h1|rfl
    . exact hle v h1
    omega
   cases b
   . refine Tz ?_;exact⟨by rw[fL];rfl,ZD,trivial⟩
   refine Tx ?_;exact⟨by rw[fL];rfl,ZD,trivial⟩
 rintro f H hk ⟨hv,hle,hn,g0⟩;simp only[zM] at hv;rw[Ay] at hv hle;refine Tx ?_;apply hK;simp only[↓zP,zG,seval,hv];refine Rx ?_;have :l.all (fun v=>decide (aD.dot q.1 v<=q.2))=true:=Bg.2 fun v hv=>Aj (hle v hv);simp only[EC,this,Ct];rfl
def Wl(p q:aD.V×Int):Int:=orZ [uE p.1.x q.1.x,uE p.1.y q.1.y,uE p.1.z q.1.z]
theorem Wm(p q:aD.V×Int)(H:aA):Sg 249 [.agg (jG p),.agg (jG q)] H (.ret (.int .i64 (Wl p q))) H:=by
 refine So bCt (by simp only[sf,CA]) ?_ H;unfold aRn;dsimp only;refine bX ?_;refine Ty ?_;refine gG ?_;refine Dz ?_;simp only[↓zP,zJ,seval,zD,jG,pZ];refine dM (jA p.1.x q.1.x _) ?_;simp only[↓zP,zJ,seval,zD,pZ];refine dM (jA p.1.y q.1.y _) ?_;simp only[↓zP,zJ,seval,zD,pZ];refine dM (jA p.1.z q.1.z _) ?_;simp only[↓zP,zJ,seval,zD];have SN:=yg [uE p.1.x q.1.x,uE p.1.y q.1.y,uE p.1.z q.1.z] A2;simp only[EN,sm] at SN;refine dM (SN _) ?_;simp only[↓zP,zJ,seval,zD];refine bY ?_;refine Tx ?_
 (refine Rx ?_;rfl)
end Go.Proofs.YtogfcjbgeebfkaaGreatDoor
