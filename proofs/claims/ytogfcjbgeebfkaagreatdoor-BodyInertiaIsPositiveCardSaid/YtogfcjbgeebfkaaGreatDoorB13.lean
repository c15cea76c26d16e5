/-
  Part of the proof of statement 13
-/
import Derived.Test.YtogfcjbgeebfkaaGreatDoorB12
import Derived.Test.YtogfcjbgeebfkaaGreatDoorB06
set_option linter.unusedVariables false
set_option linter.unusedSimpArgs false
set_option maxRecDepth 100000
set_option maxHeartbeats 16000000
namespace Go.Proofs.YtogfcjbgeebfkaaGreatDoor
open Go Go.Av Go.aH
attribute [local congr] aZ aQ aR aL bD aU aS aG bE
attribute [local irreducible] FC bS eE
variable{x:Int}{B:Nat}
theorem gU(h:x.natAbs<=B)(r:B<2^63):IntKind.i64.wrap x=x:=wrap_i64 A0 A0
variable{A:Nat}
theorem bT.c{v:aH.V}(h:bT A v)(i:Nat):(v.at i).natAbs<=A:=by
 unfold V.at;split
 . exact h.1
 . exact h.2.1
 exact h.2.2
variable{a b:aH.V}
theorem LG(I:bT A a)(X:bT B b)(M:3*(A*B)<2^62)(H:aB):Sg 281 [.agg (cS a),.agg (cS b)] H (.ret (.int .i64 (aH.dot a b))) H:=by
 have O:=bY I.1 X.1;have Z:=bY I.2.1 X.2.1;have c:=bY I.2.2 X.2.2;have w1:=gU O A0;have w2:=gU Z A0;have R:=gU c A0;have C:IntKind.i64.wrap (a.x*b.x+a.y*b.y)=a.x*b.x+a.y*b.y:=gU (B:=2*(A*B)) A0 A0;have m:IntKind.i64.wrap (a.x*b.x+a.y*b.y+a.z*b.z)=a.x*b.x+a.y*b.y+a.z*b.z:=gU (B:=3*(A*B)) A0 A0;refine So bJx Zae ?_ H;unfold aXo;dsimp only;simp only[↓zP,zJ,seval,cS,AH,w1,w2,R,C,m]
 (refine Rx ?_;rfl)
variable{M:Nat}
theorem Sx{y:Int}(C:x.natAbs<=M)(Q:y.natAbs<=M)(g:M<2^61):IntKind.i64.wrap (x -y)=x -y:=gU (B:=2*M) A0 A0
theorem Mj(I:bT A a)(X:bT B b)(M:A*B<2^61)(H:aB):Sg 214 [.agg (cS a),.agg (cS b)] H (.ret (.agg (cS (aH.bC a b)))) H:=by
 obtain⟨a1,y,Q⟩:=I;obtain⟨b1,b2,D⟩:=X;have w1:=gU (bY y D) A0;have w2:=gU (bY Q b2) A0;have R:=gU (bY Q b1) A0;have C:=gU (bY a1 D) A0;have m:=gU (bY a1 b2) A0;have U:=gU (bY y b1) A0;have c:=Sx (bY y D) (bY Q b2) M;have p:=Sx (bY Q b1) (bY a1 D) M;have f:=Sx (bY a1 b2) (bY y b1) M;refine So aSo Zae ?_ H;unfold aLc;dsimp only;simp only[zJ,seval,cS,AH,w1,w2,R,C,m,U,c,p,f]
 (refine Rx ?_;rfl)
theorem rv(I:bT A a)(M:A<2^62)(H:aB):Sg 132 [.agg (cS a)] H (.ret (.agg (cS (aH.neg a)))) H:=by
 obtain⟨a1,b,Q⟩:=I;have w1:IntKind.i64.wrap (0 -a.x)= -a.x:=(gU (B:=A) A0 A0).trans A0;have w2:IntKind.i64.wrap (0 -a.y)= -a.y:=(gU (B:=A) A0 A0).trans A0;have R:IntKind.i64.wrap (0 -a.z)= -a.z:=(gU (B:=A) A0 A0).trans A0;refine So bGq Zae ?_ H;unfold aUi;exact Zb8
theorem aQk(I:bT A a)(X:bT B b)(M:A+B<2^62)(H:aB):Sg 131 [.agg (cS a),.agg (cS b)] H (.ret (.agg (cS (aH.add a b)))) H:=by
 refine So bGp Zae ?_ H;unfold aUh;dsimp only;simp only[↓zP,zJ,seval,cS];refine fE [] (fun i _ H'=>H'.get 0=some (.cells ([0,1,2].map fun j=>if j<i then .int .i64 (a.at j+b.at j) else .int .i64 (a.at j)) false)/\H'.get 1=some (.cells (cS b) false)/\H'.get 2=some (.cells [.int .i64 0,.int .i64 0,.int .i64 0] false)) 3 A1 rfl A1 ?_ ?_ ?_ ?_
 . exact zq
 . simp only[seval,zI,Am];exact⟨rfl,rfl,trivial⟩
 . rintro i f H F E T ⟨g0,g,e⟩;have U:([0,1,2].map fun j=>if j<i then AV.int .i64 (a.at j+b.at j) else .int .i64 (a.at j)).length=3:=by simp
   have d:([0,1,2].map fun j=>if j<i then AV.int .i64 (a.at j+b.at j) else .int .i64 (a.at j)).getD i aC=.int .i64 (a.at i):=by
    match i,F with
    |0,_=>rfl
    |1,_=>rfl
    |2,_=>rfl
   have w:IntKind.i64.wrap (a.at i+b.at i)=a.at i+b.at i:=by have O:=bT.c I i;have Z:=bT.c X i;exact gU (B:=A+B) A0 A0
   refine aM ?_;refine bP ?_;refine Wz ?_;refine bQ ?_;refine Dz ?_;generalize R:([0,1,2].map fun j=>if j<i then AV.int .i64 (a.at j+b.at j) else .int .i64 (a.at j))=cs at *;simp only[↓zP,zJ,seval,zD,E 2 rfl,E 3 rfl,aI,F,g0,g,U,d,aW,iY b F,w,show i+1<=3 by omega];subst R;refine⟨?_,e⟩
   match i,F with
   |0,_=>rfl
   |1,_=>rfl
   |2,_=>rfl
 rintro f H E ⟨g0,g,e⟩;simp only[↓zP,zJ,seval,E 2 rfl,E 4 rfl,g0,e];exact⟨rfl,_,by simp only[↓zP,zR,seval,E 4 rfl];rfl,rfl⟩
theorem Wf(a b:aH.V):aH.add a (aH.neg b)=aH.sub a b:=by rfl
theorem MG(I:bT A a)(X:bT B b)(M:A+B<2^62)(H:aB):Sg 54 [.agg (cS a),.agg (cS b)] H (.ret (.agg (cS (aH.sub a b)))) H:=by refine Sp bRa Zae Zae ?_ H;unfold W54;dsimp only;refine Ty ?_;refine Dz ?_;have :=oL (aW a);have :=oL (aW b);have :=rv X A0;have :=aQk I (Lh X) M;refine Wz ?_;rw[Wf];simp only[↓zP,zJ,seval,zD,oL (aW (aH.sub a b))];exact⟨rfl,_,by simp only[↓zP,zR,seval,oL (aW (aH.sub a b))];rfl,rfl⟩
theorem Xm(a:Int)(H:aB):Sg 289 [.int .i64 a] H (.ret (.bool false)) H:=by
 refine So bKc (by rfl) ?_ H;unfold aXt;simp only[↓zP,zJ,seval,Jh]
 (refine Rx ?_;rfl)
def xJ(a b:Int):Int:=if a<b then -1 else if b<a then 1 else 0
theorem kQ(a b:Int)(H:aB):Sg 251 [.int .i64 a,.int .i64 b] H (.ret (.int .i64 (xJ a b))) H:=by
 refine So bJg Zad ?_ H;unfold aWx;dsimp only;have :=Xm a;have :=Xm b;refine Wz ?_;refine⟨fun h=>?_,fun h=>⟨fun Z=>?_,fun Z=>?_⟩⟩<;>refine Rx ?_<;>unfold xJ
 . rw[if_pos A0];rfl
 . exact ZbF
 rw[if_neg A0,if_neg A0];rfl
def orZ(l:List Int):Int:=(l.find? (· ≠0)).getD 0
theorem aBy(l:List Int)(U:l.length<2^30)(H:aB):Sg 250 [.bK 1 1 (LN l)] H (.ret (.int .i64 (orZ l))) H:=by
 refine So bJf (by simp only[sf,KT]) ?_ H;unfold aWw;dsimp only;refine bP ?_;refine Tz ?_;refine fQ ?_;refine Tz ?_;refine bQ ?_;refine aP fun K hK=>?_;refine bP ?_;refine Ty ?_;refine bQ ?_;refine bR [] (fun i _ H=>∀x∈l.take i,x=0) l.length A0 A1 ?_ ?_ ?_ ?_ ?_
 . exact zq
 . simp only[zB,seval,AT]
 . intro x hx;simp at hx
 . intro i f H F E T Y;have d:(LN l).getD i []=[.int .i64 l[i]]:=by simp[LN,List.getD,F]
   refine aM ?_;by_cases s:l[i]=0
   . simp only[↓zP,zJ,seval,T,E 6 rfl,E 3 rfl,aI,AT,F,d,s,show((0:Int) != 0)=false from rfl];intro x hx;rw[Ao,Ar] at hx
     rcases hx with hx|hx
     . exact Y x hx
     simp[F] at hx;rw[hx,s]
   have X:(l[i] != 0)=true:=ZbL;simp only[↓zP,zJ,seval,T,E 6 rfl,E 3 rfl,aI,AT,F,d,X];refine Rx ?_
   have :l.find? (· ≠0)=some l[i]:=by
    conv=>lhs;rw[<-Jz i l]
    rw[List.find?_append,Hl.2 (fun x hx=>by simp[Y x hx]),Gb F,List.find?_cons_of_pos ZbL];rfl
   rw[orZ,this];rfl
 intro f H E Y;rw[Ap] at Y;refine Tx ?_;apply hK;simp only[↓zP,zG,seval,E 3 rfl];refine Rx ?_;have :l.find? (· ≠0)=none:=Hl.2 fun x hx=>by simp[Y x hx]
 rw[orZ,this];rfl
def nI(q:aH.V×Int):List AV:=[.int .i64 q.1.x,.int .i64 q.1.y,.int .i64 q.1.z,.int .i64 q.2]
theorem EA(q:aH.V×Int):cP (nI q)=true:=by rfl
theorem aEp{a b:Int}(I:a.natAbs<=B)(X:b.natAbs<=B)(c:B<2^62)(H:aB):Sg 286 [.int .i64 a,.int .i64 b] H (.ret (.int .i64 (Int.gcd a b))) H:=by
 refine So bKb Zad ?_ H;unfold aXs;dsimp only;refine bP ?_;refine Tz ?_;refine bQ ?_;refine aP fun K hK=>?_;refine aM (jW [0,1] (fun m vs _=>∃x y:Int,vs=[.int .i64 x,.int .i64 y]/\x.natAbs<=B/\y.natAbs<=B/\m=y.natAbs/\Int.gcd x y=Int.gcd a b) b.natAbs (by rfl) ?_ ?_)
 . exact⟨a,b,by simp only[sm,zB,seval,dY],I,X,rfl,rfl⟩
 rintro m f H E ⟨x,y,J,C,Q,rfl,d⟩;simp only[zM] at J;obtain⟨G,O⟩:=J;by_cases h:y=0
 . subst h;have L:IntKind.i64.wrap (0 -x)= -x:=(gU (B:=B) A0 A0).trans A0;have :((0:Int) != 0)=false:=rfl;refine Wy ?_;apply hK;refine Wy ?_;refine Rx ?_
   have g:(Int.gcd a b:Int)=if -x>x then -x else x:=(by rw[<-d,aMx]);rw[g];rfl
 have q:(y != 0)=true:=by simpa using h
 refine Wy ?_;refine aM (WZ A1 ?_);simp only[↓zP,zG,seval,zD,G,O];rw[if_neg h]
 have r:(x.tmod y).natAbs<y.natAbs:=by rw[natAbs_tmod];exact Bz _ A0
 simp only[zG,seval,zD];exact⟨_,r,y,x.tmod y,by simp only[sm,zB,seval],Q,by omega,rfl,by rw[XR,d]⟩
theorem XQ{a b:Int}(I:a.natAbs<=B)(X:b.natAbs<=B):Int.gcd a b<=B:=by
 unfold Int.gcd
 rcases Fy a.natAbs with h|h
 . grind
 exact Aw (Nat.gcd_le_left _ h) I
def MD(a b c:aH.V):aH.V×Int:=let n:=iC (aH.bC (aH.sub b a) (aH.sub c a));(n,aH.dot n a)
theorem jv{c:aH.V}(I:bT M a)(X:bT M b)(k:bT M c)(g:M<=2^18)(H:aB):Sg 246 [.agg (cS a),.agg (cS b),.agg (cS c)] H (.ret (.agg (nI (MD a b c)))) H:=by
 have h:=gT X I;have L:=gT k I;have A:=iM h L;have j:(M+M)*(M+M)<=2^19*2^19:=Az A0 A0;have o:2*((M+M)*(M+M))*M<=2^39*2^18:=Az A0 A0;refine Sp bJc Zae (by simp only[sf,EA]) ?_ H;unfold aWt;dsimp only;refine bP ?_;refine Ty ?_;refine fQ ?_;refine fZ 1 A1 Zcc fun H1 n1 T=>?_;simp only[zI,seval] at n1 T;have :=oL (aW a);have :=oL (aW b);have :=MG X I A0;have :=oL (aW c);have :=MG k I A0;have :=Mj h L A0;refine Wz ?_;generalize q:aH.bC (aH.sub b a) (aH.sub c a)=N at *;have :=oL (aW N);refine Wz ?_;refine bQ ?_;generalize r:2*((M+M)*(M+M))=B at *;generalize hX:(H1.set 4 _).set 4 _=H2;have g0:=Kx (i:=0) hX;have U:=Kx (i:=3) hX;have R:=Kv (i:=4) hX;clear hX T n1
 have w:(Int.gcd N.x N.y:Int).natAbs<=B:=by rw[Cs];exact XQ A.1 A.2.1
 have m:=uE A;refine aP fun K hK=>?_;refine bP ?_;refine Dz ?_;simp only[↓zP,zJ,seval,zD,R,AH,cS];refine gV (aEp A.1 A.2.1 A0 _) ?_;simp only[↓zP,zJ,seval,zD,R,AH,cS];refine gV (aEp w A.2.2 A0 _) ?_;simp only[↓zP,zJ,seval,zD,RS];refine bQ ?_
 have p:∀(f:dI) (W:aB),f 3=.ref 0 0->f 6=.ref 3 0->f 7=.ref 4 0->W.get 0=some (.cells (cS a) false)->W.get 3=some (.cells [.int .i64 0,.int .i64 0,.int .i64 0,.int .i64 0] false)->W.get 4=some (.cells (cS (iC N)) false)->K f [] W:=by intro f W S l J g0 U R;apply hK;clear hK K;refine bP ?_;refine Dz ?_;simp only[↓zP,zJ,seval,zD,S,J,g0,R,oL (aW a),oL (aW (iC N))];refine gV (LG m I A0 _) ?_;simp only[↓zP,zJ,seval,zD,l,U,cS];refine bQ ?_;refine Tx ?_;refine⟨rfl,_,by simp only[↓zP,zR,seval,l];rfl,?_⟩;simp only[MD,q,nI];rfl
 refine Tz ?_;refine⟨fun e=>?_,fun n=>?_⟩
 . have s:¬((fY N:Nat):Int)=0:=by omega
   have d:=Td N;have q1:IntKind.i64.wrap (N.x.tdiv (fY N))=(iC N).x:=(by rw[gU (B:=B) (by have :=m.1;rw[d] at this;exact this) A0,d]);have q2:IntKind.i64.wrap (N.y.tdiv (fY N))=(iC N).y:=(by rw[gU (B:=B) (by have :=m.2.1;rw[d] at this;exact this) A0,d]);have q3:IntKind.i64.wrap (N.z.tdiv (fY N))=(iC N).z:=(by rw[gU (B:=B) (by have :=m.2.2;rw[d] at this;exact this) A0,d]);refine Dz ?_;simp only[↓zP,zJ,seval,zD,R,AH,cS,s,q1,q2,q3];apply p<;>simp only[↓zP,zJ,seval,g0,U,cS]
 have T:iC N=N:=aHn A0
 apply p<;>first|(simp only[↓zP,zG,seval];done)|(rw[T];exact R)|assumption
def bU(l:List aH.V):List (List AV):=l.map cS
theorem aX(l:List aH.V):(bU l).length=l.length:=by simp[bU]
theorem cG{l:List aH.V}{i:Nat}(h:i<l.length):(bU l).getD i []=cS l[i]:=fT h
variable{tag:Nat}
theorem cT(W:Nat.blt tag 2=true)(l:List aH.V):(AV.bK tag 3 (bU l)).free=true:=by simp only[AV.free,W,Dm];exact dQ cD l
def GJ(l:List aH.V)(q:aH.V×Int):Bool:=l.all (fun v=>decide (aH.dot q.1 v<=q.2))&& !l.all (fun v=>aH.dot q.1 v==q.2)
theorem fe(W:Nat.blt tag 2=true){l:List aH.V}{M B:Nat}(U:∀v∈l,bT M v)(Q:l.length<2^30){q:aH.V×Int}(D:bT B q.1)(a:3*(B*M)<2^62)(H:aB):
 Sg 247 [.bK tag 3 (bU l),.agg (nI q)] H (.ret (.bool (GJ l q))) H:=by
 refine So bJd (by simp only[sf,cT W,EA]) ?_ H;unfold aWu;dsimp only;have P:(nI q).length=4:=rfl;have p1:(nI q).take 3=cS q.1:=rfl;have p2:(nI q).getD 3 aC=.int .i64 q.2:=rfl;refine bP ?_;refine Ty ?_;refine fQ ?_;refine Tz ?_;refine bQ ?_;refine aP fun K hK=>?_;refine bP ?_;refine Ty ?_;refine bQ ?_;refine bR [5] (fun i vs H=>vs=[.bool ((l.take i).all (fun v=>aH.dot q.1 v==q.2))]/\(∀v∈l.take i,aH.dot q.1 v<=q.2)/\1<=H.next/\H.get 0=some (.cells (nI q) false)) l.length A0 A1 ?_ ?_ ?_ ?_ ?_
 . exact zq
 . exact Zbw
 . refine⟨by simp only[sm,zB,seval];rfl,fun v J=>by simp at J,by simp only[zI,seval],by simp only[seval,zI]⟩
 . rintro i f H F E c ⟨J,m,A,g0⟩;simp only[zM] at J
   have C:∀v,v∈l.take (i+1)->v∈l.take i\/v=l[i]:=fun v J=>by
    exact Zam
   have y:(l.take (i+1)).all (fun v=>aH.dot q.1 v==q.2)=((l.take i).all (fun v=>aH.dot q.1 v==q.2)&&(aH.dot q.1 l[i]==q.2)):=by rw[Ao,List.all_append];simp[F]
   generalize X:(l.take i).all (fun v=>aH.dot q.1 v==q.2)=b at *;have j:=Ag F;have d:=cG F;generalize T:l[i]=x at *;have s:¬(0=H.next):=A0;refine aM ?_;simp only[↓zP,zJ,seval,c,E 9 rfl,E 3 rfl,aI,aX,F,d,oL (aW x),s,g0,P,p1];refine eI (LG D (U x j) a _) ?_;simp only[↓zP,zJ,seval,E 3 rfl,s,g0,P,p2,J];refine⟨fun h=>?_,fun h=>?_⟩
   . refine Rx ?_
     have :GJ l q=false:=by simp only[GJ,Kd];refine .inl ?_;rw[<-Fx,Bi];intro I;have :=Ek (I x j);omega
     rw[this];rfl
   have e:∀v∈l.take (i+1),aH.dot q.1 v<=q.2:=fun v J=>by
    rcases C v J with O|rfl
    . exact m v O
    omega
   cases b
   . refine Tz ?_;exact⟨by rw[y];rfl,e,trivial⟩
   refine Tx ?_;exact⟨by rw[y];rfl,e,trivial⟩
 rintro f H E ⟨J,m,A,g0⟩;simp only[zM] at J;rw[Ap] at J m;refine Tx ?_;apply hK;simp only[↓zP,zG,seval,J];refine Rx ?_;have :l.all (fun v=>decide (aH.dot q.1 v<=q.2))=true:=Bi.2 fun v J=>Af (m v J);simp only[GJ,this,Dm];rfl
def YK(p q:aH.V×Int):Int:=orZ [xJ p.1.x q.1.x,xJ p.1.y q.1.y,xJ p.1.z q.1.z]
theorem YL(p q:aH.V×Int)(H:aB):Sg 249 [.agg (nI p),.agg (nI q)] H (.ret (.int .i64 (YK p q))) H:=by
 refine So bJe (by simp only[sf,EA]) ?_ H;unfold aWv;dsimp only;refine bP ?_;refine Ty ?_;refine fQ ?_;refine Dz ?_;simp only[↓zP,zJ,seval,zD,nI,AH];refine gV (kQ p.1.x q.1.x _) ?_;simp only[↓zP,zJ,seval,zD,AH];refine gV (kQ p.1.y q.1.y _) ?_;simp only[↓zP,zJ,seval,zD,AH];refine gV (kQ p.1.z q.1.z _) ?_;simp only[↓zP,zJ,seval,zD];have s:=aBy [xJ p.1.x q.1.x,xJ p.1.y q.1.y,xJ p.1.z q.1.z] A3;simp only[LN,sm] at s;refine gV (s _) ?_;simp only[↓zP,zJ,seval,zD];refine bQ ?_;refine Tx ?_
 (refine Rx ?_;rfl)
end Go.Proofs.YtogfcjbgeebfkaaGreatDoor
