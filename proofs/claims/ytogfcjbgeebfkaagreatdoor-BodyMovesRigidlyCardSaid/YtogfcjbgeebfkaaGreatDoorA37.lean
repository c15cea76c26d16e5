/-
  Part of the proof of statement 9
-/
import Derived.Test.YtogfcjbgeebfkaaGreatDoorA36
import Derived.Test.YtogfcjbgeebfkaaGreatDoorA24
import Derived.Test.YtogfcjbgeebfkaaGreatDoorA07
set_option linter.unusedSimpArgs false
set_option linter.unusedVariables false
set_option maxRecDepth 100000
set_option maxHeartbeats 16000000
namespace Go.Proofs.YtogfcjbgeebfkaaGreatDoor
open Go Go.Av Go.jG Go.aC
attribute [local congr] aX aQ aR aL bA aW aS aG bB
attribute [local irreducible] FC bT eI
noncomputable def e9:List (List aC.V)->Nat->Option Rat
 |[],_=>none
 |l::ls,p=>ls.foldl (fun s t=>kY s (NN t p)) (NN l p)
variable{ls:List (List aC.V)}
theorem aGj(h:ls≠[])(l:List aC.V)(p:Nat):e9 (ls++[l]) p=kY (e9 ls p) (NN l p):=by
 cases ls with
 |nil=>exact absurd rfl h
 |cons a r=>simp[e9]
noncomputable def fcB (ls:List (List aC.V)) (m:Option Rat):Option Rat:=Us (lB (some ((6:Int):Rat)) m) (rQ (qJ ls) (some 1))
noncomputable def Li (ls:List (List aC.V)) (m:Option Rat) (p:Nat):Option Rat:=lB (e9 ls p) (fcB ls m)
variable{name:List UInt8}
theorem aMi(hp:Pok ls)(cU:ls≠[]){m:Option Rat}(hm:gM (eB m) m)(F:∀l∈ls,Ua (NN l))(hs:∀k,0<k->k<=ls.length->Ua (e9 (ls.take k)))(R:gM (eB (fcB ls m)) (fcB ls m))(nt:(fcB ls m).isSome=true)(S:Ua (Li ls m))(M m1 L r1:Int)(H:aA):
 Sg 20 [.agg (bd name ls M m1 L r1),.agg (eB m)] H (.ret (.agg (mC (Li ls m)))) H:=by
 refine Sp bIg (by simp only[sf,sM,cS]) ZbG ?_ H;unfold W20;dsimp only;have bv:=Uj (name:=name) hp M m1 L r1;have q:(bd name ls M m1 L r1).length=6:=rfl;have b1:(bd name ls M m1 L r1).getD 1 aB=.bJ 0 1 (pE ls):=rfl;have A:=hp.1;have U:∀x,(mC x).length=3:=fun _=>rfl;have m3:=fun x=>oL (U x);generalize bd name ls M m1 L r1=bc at *;refine bP ?_;refine Ty ?_;refine bQ ?_;generalize hX:aA.alloc _ _=I;have a0:=Kv (i:=0) hX;have a1:=Kv (i:=1) hX;have Q:=Kv (i:=2) hX;have b:bH I:=by subst hX;exact((((bH.nil _).alloc _).alloc _)).alloc _
 have O:I.next=3:=by subst hX;rfl
 clear hX;refine bP ?_;refine Tz ?_;refine bQ ?_;generalize hX:aA.alloc _ _=D
 replace a0:=Kx (i:=0) hX
 replace a1:=Kx (i:=1) hX
 replace Q:=Kx (i:=2) hX
 have a3:=Kx (i:=3) hX
 replace b:bH D:=by subst hX;exact b.alloc _
 have af:4<=D.next:=by subst hX;simp only[zI,seval,O]
 clear hX;refine bW fun f N=>?_;have s:=Kf (i:=2) N;have f3:=Kf (i:=3) N;have f4:=Kf (i:=4) N;have f5:=Kg (i:=5) N;clear N O I;refine aM fun K hK=>?_;refine bP ?_;have := @yM;refine Wy ?_;refine bQ ?_;refine bS [] (fun i _ H'=>H'.get 0=some (.cells bc false)/\H'.get 1=some (.cells (eB m) false)/\H'.get 2=some (.cells [.int .i64 0,.int .i64 0,.bE] false)/\(0<i->H'.get 3=some (.cells (mC (e9 (ls.take i))) false))/\(∃c3,H'.get 3=some (.cells c3 false)/\c3.length=3)/\bH H'/\4<=H'.next) ls.length A0 A1 ?_ ?_ ?_ ?_ ?_
 . exact zq
 . exact zq
 . exact⟨a0,a1,Q,fun h=>absurd h (Ec _),⟨_,a3,rfl⟩,b,af⟩
 . rintro i u H1 fF E e1 ⟨g0,g,d,C,⟨c,j,gl⟩,gF,gn⟩;have k2:u 2=.ref 0 0:=by rw[E 2 rfl];simp only[zB,seval];exact s
   have k5:u 5=.ref 3 0:=Zbr;have a6:u 12=.bJ 0 1 (pE ls):=E 12 rfl;have t:=RF fF;have v:=Ac fF;have T:∀H,Sg 78 [.agg [.bJ 0 3 (bR ls[i])]] H (.ret (.agg (mC (NN ls[i])))) H:=aNx (hp.2 _ v);have uL:ls.take (i+1)=ls.take i++[ls[i]]:=(by rw[Ao,Af fF];rfl);have a:=hs (i+1) A0 fF;have Og:=F _ v;refine aJ ?_;refine bP ?_;simp only[↓zP,zJ,seval,a6,e1,aD,yM,fF,t];refine bQ ?_;generalize hX:aA.set _ _ _=H4;generalize hr:H1.next=r at *;have W:=Ku hX g0;have u1:=Ku hX g;have n:=Ku hX d;have u3:=Ku hX j;have ur:=Kz hX;have un:r+1=H4.next:=(by subst hX;simp only[aA.aZ,aA.bK,hr]);have uF:bH H4:=(by subst hX;exact(gF.alloc _).set (by simp only[aA.bK,hr];omega) _);clear hX;refine aM fun K2 cY=>?_;by_cases o:i=0
   . subst o;have hd:decide (((0:Nat):Int)=0)=true:=rfl;have B:e9 (ls.take (0+1))=NN ls[0]:=(by rw[uL];rfl);rw[B] at a;simp only[↓zP,zJ,seval,ur];refine fC (T _) ?_;simp only[↓zP,zJ,seval,k5,u3,gl,U];have ad:e9 (ls.take 1)=NN ls[0]:=B;rw[ad];have a7:mC (NN ls[0])++List.drop 3 c=mC (NN ls[0]):=(by rw[Bc A0,Bx]);rw[a7];exact⟨W,u1,n,fun _=>rfl,⟨_,rfl,rfl⟩,uF.set A0 _,by omega⟩
   have hd:((i:Int)==0)=false:=Cy.2 A0
   have ae:ls.take i≠[]:=fun e=>by rcases List.take_eq_nil_iff.1 e with e|e<;>first|exact o e|exact cU e
   have B:e9 (ls.take (i+1))=fun p=>kY (e9 (ls.take i) p) (NN ls[i] p):=by funext p;rw[uL];exact aGj ae _ _
   obtain rfl:c=mC (e9 (ls.take i)):=by have :=C A0;rw[j] at this;cases this;rfl
   have ab:=aOq (hs i A0 A0) Og (by rw[<-B];exact a);rw[<-B] at ab;generalize e9 (ls.take (i+1))=Y at *;generalize e9 (ls.take i)=X at *;refine Ww ?_;apply cY;clear cY K2;refine bP ?_;refine Tz ?_;refine fW ?_;refine Dz ?_;refine Wy ?_;refine bQ ?_;simp only[↓zP,zJ,seval,show((0:Int) != 0)=false from rfl];exact⟨W,u1,n,trivial,⟨_,rfl,rfl⟩,uF.set A0 _,by omega⟩
 rintro u H1 E ⟨g0,g,d,C,_,gF,gn⟩;have k2:u 2=.ref 0 0:=by rw[E 2 rfl];simp only[zB,seval];exact s
 have k3:u 3=.ref 1 0:=by rw[E 3 rfl];simp only[zB,seval];exact f3
 have k4:u 4=.ref 2 0:=by rw[E 4 rfl];simp only[zB,seval];exact f4
 have k5:u 5=.ref 3 0:=by rw[E 5 rfl];simp only[zB,seval];exact f5
 rw[Aq] at C;have C:=C (Hk.2 cU);refine Tx ?_;apply hK;clear hK K;have J:=zi (hs ls.length (Hk.2 cU) (Ae _)) (c:=fcB ls m);rw[Aq] at J;have J:=J R nt S;rw[show(fun p=>lB (e9 ls p) (fcB ls m))=Li ls m from rfl] at J;have o6:=EU (z:=6) A1 A1;have m6:=sU (gM.int (z:=6) A1 A1) hm;have iv:dN (cO (qJ ls)) (qJ ls):=dN.pW _ _;have hw:=GG iv;have dv:=rp (gM.mul (x:=some ((6:Int):Rat)) (y:=m)) (.mk iv (.enc (z:=1) A1));rw[show Us (lB (some ((6:Int):Rat)) m) (rQ (qJ ls) (some 1))=fcB ls m from rfl] at dv;have lm:=oL (fA m);refine bP ?_;refine fT 1 A1 gF.vm fun w n2 P=>?_;simp only[↓zP,zJ,seval,zD,k5,P,C,U,m3];refine gH (o6 _) ?_;simp only[↓zP,zJ,seval,zD,k3,P,g,lm];refine gH (m6 _) ?_;simp only[↓zP,zJ,seval,zD,k2,P,g0,q,oL q];refine gH (bv _) ?_;simp only[seval];refine gH (hw _) ?_;simp only[seval];refine gH (dv _) ?_;simp only[seval];refine gH (J _) ?_;simp only[↓zP,zJ,seval,zD,n2,P,U];refine bQ ?_;have Z:((w.set H1.next (eG.cells [AV.int IntKind.i64 0,AV.int IntKind.i64 0,AV.bE] false)).set H1.next (eG.cells (mC (Li ls m)) false)).get 2=some (.cells [.int .i64 0,.int .i64 0,.bE] false):=by rw[aA.aH,if_neg A0,aA.aH,if_neg A0,P];exact d
 refine Wz ?_;refine⟨rfl,_,by simp only[↓zP,zR,seval,k4,m3];rfl,?_⟩;rfl
variable{n:Int}
theorem Bq.VF{d:Int}{a b:Nat}(hd:d≠0)(O:n.natAbs<=2^a)(Z:d.natAbs<=2^b):Bq ((n:Rat) / (d:Rat)) a b:=by rw[<-Rat.divInt_eq_div];exact .divInt hd O Z
theorem Rg{α:Type}{x:α->Option Rat}{m:α->Int}{c:Int}(R:0<c){a b:Nat}(f:c.natAbs<=2^b)(j:a+b<=510)(d:b+b<=511){B:Nat}:∀(T:List α) (s:Int),(∀t∈T,x t=some ((m t:Rat) / (c:Rat)))->(∀t∈T,(m t).natAbs<=B)->s.natAbs+T.length*B<=2^a->
 T.foldl (fun s t=>kY s (x t)) (some ((s:Rat) / (c:Rat)))=some (((s+dB m T:Int):Rat) / (c:Rat))
 |[],s,_,_,_=>by simp[dB]
 |t::T,s,hx,hB,hn=>by
  have O:=hB t Az;rw[Ba,Dm] at hn;have l:c≠0:=by omega
  have e:=sX (x:=(s:Rat) / (c:Rat)) (y:=(m t:Rat) / (c:Rat)) (.VF (a:=a) l A0 f) (.VF (a:=a) l A0 f) j j d
  have P:(s:Rat) / (c:Rat)+(m t:Rat) / (c:Rat)=((s+m t:Int):Rat) / (c:Rat):=by grind
  rw[List.foldl_cons,hx t Az,e,P,Rg R f j d T _ (fun u K=>hx u (As _ K)) (fun u K=>hB u (As _ K)) A0];simp[dB,Int.add_assoc]
def Bp(ls:List (List aC.V)):Prop:=ls≠[]/\ls.length<=8/\∀l∈ls,Vp l
noncomputable def VB (ls:List (List aC.V)):Int:=dB V6 ls
noncomputable def MB (ls:List (List aC.V)) (i:Nat):Int:=dB (fun l=>M1 l i) ls
noncomputable def IB (ls:List (List aC.V)) (p:Nat):Int:=dB (fun l=>In l p) ls
theorem Bp.pok(h:Bp ls):Pok ls:=⟨h.2.1,fun l U=>(h.2.2 l U).1⟩
theorem Bp.le(h:Bp ls)(B:Nat):ls.length*B<=8*B:=Bf _ h.2.1
theorem vB(h:Bp ls):qJ ls=some (VB ls)/\(VB ls).natAbs<=2^54/\0<VB ls:=by have A:=h.le (2^51);have X:∀l∈ls,(V6 l).natAbs<=2^51:=fun l U=>(tl (h.2.2 l U)).2;refine⟨MT (a:=54) A1 (fun l U=>(tl (h.2.2 l U)).1) X A,Ay (wR X) A,?_⟩;obtain⟨l,U⟩:=List.exists_mem_of_ne_nil _ h.1;exact MS (fun l U=>Ig (Uh (h.2.2 l U))) ⟨l,U,Uh (h.2.2 l U)⟩
variable{l:List aC.V}
theorem bEd(h:Vp l)(i:Nat):ce l i=some ((M1 l i:Rat) / ((4*V6 l:Int):Rat)):=by
 have J:=tl h;have m:=Uh h;have e:lY (some 4) (vo l)=some (4*V6 l):=by rw[J.1];exact norm_le (a:=53) A0 A1
 show rQ (uC l i (oY (dY l) (fU l))) (lY (some 4) (vo l))=_;rw[e,(aHd h i).1];simp only[rQ];rw[if_neg A0,Rat.divInt_eq_div]
theorem bDd(h:Vp l)(i:Nat):shQ i l=some ((M1 l i:Rat) / ((4:Int):Rat)):=by
 have J:=tl h;have m:=Uh h;have p:=aHd h i;unfold shQ;rw[bEd h,J.1,PG,pB (Bq.int J.2) (Bq.VF (a:=65) (b:=53) A0 p.2 A0) A1 A1];have o:(V6 l:Rat)≠0:=fun e=>by simp_all
 grind
theorem bDe(h:Bp ls)(i:Nat):Sj ls i=some ((MB ls i:Rat) / ((4:Int):Rat))/\(MB ls i).natAbs<=2^68:=by have A:=h.le (2^65);have X:∀l∈ls,(M1 l i).natAbs<=2^65:=fun l U=>(aHd (h.2.2 l U) i).2;have :=Rg (x:=shQ i) (m:=fun l=>M1 l i) (c:=4) (a:=68) (b:=2) A1 A1 A1 A1 ls 0 (fun l U=>bDd (h.2.2 l U) i) X Zcy;rw[Int.zero_add] at this;refine⟨?_,Ay (wR X) A⟩;unfold Sj ZB;rw[show((0:Int):Rat)=((0:Int):Rat) / ((4:Int):Rat) from by rw[Rat.div_def,show((0:Int):Rat)=0 from rfl,Rat.zero_mul]];exact this
theorem IT(h:Bp ls)(i:Nat):FI ls i=some ((MB ls i:Rat) / ((4*VB ls:Int):Rat))/\Bq ((MB ls i:Rat) / ((4*VB ls:Int):Rat)) 68 56:=by
 obtain⟨J,y,m⟩:=vB h;have p:=bDe h i;have o:(VB ls:Rat)≠0:=fun e=>by simp_all
 refine⟨?_,Bq.VF A0 p.2 A0⟩;unfold FI;rw[p.1,J,PG,XO (Bq.VF (a:=68) (b:=2) A1 p.2 A1) (Bq.int y) o A1 A1]
 grind
theorem e8(h:Vp l)(p:Nat):NN l p=some ((In l p:Rat) / ((120:Int):Rat)):=by unfold NN;rw[(aGe h p).1];simp only[rQ];rw[if_neg A1,Rat.divInt_eq_div]
theorem fe(h:Bp ls)(p:Nat):e9 ls p=some ((IB ls p:Rat) / ((120:Int):Rat))/\(IB ls p).natAbs<=2^84:=by
 have A:=h.le (2^81);have X:∀l∈ls,(In l p).natAbs<=2^81:=fun l U=>(aGe (h.2.2 l U) p).2;refine⟨?_,Ay (wR X) A⟩
 cases ls with
 |nil=>exact absurd rfl h.1
 |cons l r=>
  have :=Rg (x:=fun t=>NN t p) (m:=fun l=>In l p) (c:=120) (a:=84) (b:=7) (B:=2^81) A1 A1 A1 A1 r (In l p) (fun t q=>e8 (h.2.2 t (As _ q)) p) (fun t q=>X t (As _ q)) (by grind)
  show r.foldl (fun s t=>kY s (NN t p)) (NN l p)=_;rw[e8 (h.2.2 l Az),this];rfl
theorem VC(h:Bp ls){k:Int}(E:k.natAbs<=2^10):fcB ls (some (k:Rat))=some (((6*k:Int):Rat) / (VB ls:Rat))/\Bq (((6*k:Int):Rat) / (VB ls:Rat)) 13 54:=by
 obtain⟨J,y,m⟩:=vB h;have o:(VB ls:Rat)≠0:=fun e=>by simp_all
 have R:(6*k).natAbs<=2^13:=by omega
 refine⟨?_,Bq.VF A0 R y⟩;unfold fcB;rw[pB (Bq.int (n:=6) (a:=3) A1) (Bq.int E) A1 A1,<-Rat.intCast_mul,J,PG,XO (Bq.int R) (Bq.int y) o A1 A1]
theorem FX(h:Bp ls){k:Int}(E:k.natAbs<=2^10)(p:Nat):Li ls (some (k:Rat)) p=some ((IB ls p:Rat) / ((120:Int):Rat)*(((6*k:Int):Rat) / (VB ls:Rat)))/\Bq ((IB ls p:Rat) / ((120:Int):Rat)*(((6*k:Int):Rat) / (VB ls:Rat))) 97 61:=by obtain⟨O,Z⟩:=fe h p;obtain⟨W,h4⟩:=VC h E;have b:=Bq.VF (n:=IB ls p) (d:=120) (a:=84) (b:=7) A1 Z A1;refine⟨?_,b.mul h4⟩;unfold Li;rw[O,W,pB b h4 A1 A1]
variable{x:Nat->Option Rat}
theorem Ua.of(h:∀p,∃q,x p=some q/\CQ q):Ua x:=by
 refine⟨fun p _=>?_,?_⟩
 . obtain⟨q,e,N⟩:=h p;rw[e];exact .enc N
 refine Eh.2 fun p _=>?_;obtain⟨q,e,_⟩:=h p
 grind
theorem Bp.take(h:Bp ls){k:Nat}(E:0<k):Bp (ls.take k):=by
 refine⟨fun e=>?_,by rw[Et];have :=h.2.1;omega,fun l U=>h.2.2 l (Cw U)⟩
 rcases List.take_eq_nil_iff.1 e with e|e
 . omega
 exact h.1 e
theorem aDs(h:Bp ls){k:Int}(E:k.natAbs<=2^10)(M C L r1:Int)(H:aA):
 Sg 20 [.agg (bd name ls M C L r1),.agg (cQ (k:Rat))] H (.ret (.agg (mC (Li ls (some (k:Rat)))))) H:=by
 have N:CQ (k:Rat):=(Bq.int E).fit A1 A1
 refine aMi (m:=some (k:Rat)) h.pok h.1 (.enc N) (fun l U=>.of fun p=>⟨_,e8 (h.2.2 l U) p,(Bq.VF (a:=81) (b:=7) A1 (aGe (h.2.2 l U) p).2 A1).fit A1 A1⟩)
  (fun k E _=>.of fun p=>⟨_,(fe (h.take E) p).1,(Bq.VF (a:=84) (b:=7) A1 (fe (h.take E) p).2 A1).fit A1 A1⟩) ?_ ?_ (.of fun p=>⟨_,(FX h E p).1,(FX h E p).2.fit A1 A1⟩) M C L r1 H
 . rw[(VC h E).1];exact .enc ((VC h E).2.fit A1 A1)
 rw[(VC h E).1];rfl
def xA(d:aC.V)(ls:List (List aC.V)):List (List aC.V):=ls.map (mP d)
theorem Bp.mv(h:Bp ls)(d:aC.V)(hd:∀l∈ls,∀v∈mP d l,bN (2^12) v):Bp (xA d ls):=by
 refine⟨fun e=>h.1 (Fu.1 e),by simpa [xA] using h.2.1,fun m p=>?_⟩;obtain⟨l,U,rfl⟩:=Bb.1 p;refine⟨aMr d (h.2.2 l U).1 fun v J=>?_,hd l U⟩
 grind[bN]
theorem aCs(h:Bp ls)(d:aC.V):VB (xA d ls)=VB ls:=by unfold VB xA;rw[tQ];exact iU fun l U=>bDx (h.2.2 l U) d
theorem bDr(h:Bp ls)(d:aC.V)(i:Nat):MB (xA d ls) i=MB ls i+4*d.at i*VB ls:=by unfold MB VB xA;rw[tQ,<-mE,<-rM];exact iU fun l U=>bDq (h.2.2 l U) d i
noncomputable def JB (ls:List (List aC.V)) (i k:Nat):Int:=dB (fun l=>S2 l i k) ls
theorem Wn(h:Bp ls)(d:aC.V)(i k:Nat):JB (xA d ls) i k=JB ls i k+(5*d.at i*MB ls k+5*d.at k*MB ls i+20*(d.at i*d.at k)*VB ls):=by unfold JB MB VB xA;rw[tQ,<-mE,<-mE,<-mE,<-rM,<-rM,<-rM];exact iU fun l U=>bDw (h.2.2 l U) d i k
theorem ky(ls:List (List aC.V)){i k:Nat}(E:k<3):IB ls (3*i+k)=if i=k then -JB ls i k+(JB ls 0 0+JB ls 1 1+JB ls 2 2) else -JB ls i k:=by
 have T:(3*i+k) / 3=i:=by omega
 have P:(3*i+k)%3=k:=by omega
 have neg:∀i k,-JB ls i k=dB (fun l=>(-1)*S2 l i k) ls:=fun i k=>by rw[mE];show _= -1*JB ls i k;omega
 unfold IB In;rw[T,P];split<;>simp_all[neg,JB,rM,Tr]
theorem aJe{x y:Nat->Rat}{a b:Nat}(h:∀i,Bq (x i*y i) a b)(p:∀i,lB (some (x i)) (some (y i))=some (x i*y i))(j:b<=a)(X:a+3*b<=300):sQ (fun i=>some (x i)) (fun i=>some (y i)) 3=some (0+x 0*y 0+x 1*y 1+x 2*y 2)/\Bq (0+x 0*y 0+x 1*y 1+x 2*y 2) (a+2*b+3) (3*b):=by have Q:Bq 0 0 0:=Bq.int (n:=0) A1;have R:=Q.add (h 0) (e:=a+1) A0 A0;have L:=R.add (h 1) (e:=a+b+2) A0 A0;have k:=L.add (h 2) (e:=a+2*b+3) A0 A0;refine⟨?_,by grind⟩;simp only[sQ,p];rw[show some ((0:Int):Rat)=some (0:Rat) from rfl,sX Q (h 0) A0 A0 A0,sX R (h 1) A0 A0 A0,sX L (h 2) A0 A0 A0]
theorem bDi(v J a K b E:Rat)(c:v≠0):(-(J+(5*(-a)*E+5*(-K)*b+20*((-a)*(-K))*v))) / 120*(42 / v)=(-J) / 120*(42 / v)+7*(-((a*K -b / (4*v)*K) -a*(E / (4*v)))):=by grind
theorem bDg(v J K Z S e M C Y:Rat)(f d c a b:Rat)(g:v≠0)(r:K=f+(5*(-Z)*M+5*(-Z)*M+20*((-Z)*(-Z))*v)+(d+(5*(-S)*C+5*(-S)*C+20*((-S)*(-S))*v))+(c+(5*(-e)*Y+5*(-e)*Y+20*((-e)*(-e))*v))):
 (-(J+(5*(-a)*b+5*(-a)*b+20*((-a)*(-a))*v))+K) / 120*(42 / v)=(-J+(f+d+c)) / 120*(42 / v)+7*(((0+Z*Z+S*S+e*e) -2*(0+M / (4*v)*Z+C / (4*v)*S+Y / (4*v)*e))+ -((a*a -b / (4*v)*a) -a*(b / (4*v)))):=by
 grind
theorem Zv(d:aC.V)(i:Nat):(aC.neg d).at i= -d.at i:=by unfold aC.V.at;split<;>rfl
theorem bDh(h:Bp ls){d:aC.V}(hd:bN (2^12) d)(K:Bp (xA (aC.neg d) ls)){i n:Nat}(F:i<3)(A:n<3):Li (xA (aC.neg d) ls) (some ((7:Int):Rat)) (3*i+n)=stK (Li ls (some ((7:Int):Rat))) (FI ls) (ofV d) i n:=by
 obtain⟨_,_,m⟩:=vB h;have o:(VB ls:Rat)≠0:=fun e=>by rw[Rat.intCast_eq_zero_iff] at e;omega
 have H:FI ls=fun i=>some ((MB ls i:Rat) / ((4*VB ls:Int):Rat)):=funext fun i=>(IT h i).1;have t:∀i,Bq ((MB ls i:Rat) / ((4*VB ls:Int):Rat)) 68 56:=fun i=>(IT h i).2;have G:ofV d=fun i=>some (d.at i:Rat):=rfl;have a:∀i,Bq (d.at i:Rat) 12 0:=fun i=>Bq.int (lF hd i);have j0:=FX h (k:=7) A1 (3*i+n);have J:=FX K (k:=7) A1 (3*i+n);have U:∀i,(MB ls i:Rat) / ((4*VB ls:Int):Rat)=(MB ls i:Rat) / (4*(VB ls:Rat)):=fun i=>by rw[Rat.intCast_mul];rfl
 rw[H,G];generalize j:(fun i=>(MB ls i:Rat) / ((4*VB ls:Int):Rat))=C at *;have z:∀i,(MB ls i:Rat) / ((4*VB ls:Int):Rat)=C i:=fun i=>by rw[<-j]
 simp only[z] at t U ⊢;generalize r:(fun i=>(d.at i:Rat))=D at *;have c:∀i,(d.at i:Rat)=D i:=fun i=>by rw[<-r]
 simp only[c] at a ⊢;have g:=fun i n=>pB (a i) (a n) A1 A1;have b:=fun i n=>(a i).mul (a n);have l:=fun i n=>pB (t i) (a n) A1 A1;have f:=fun i n=>(t i).mul (a n);have w:=fun i n=>pB (a i) (t n) A1 A1;have s:=fun i n=>(a i).mul (t n);have I:=MP (b i n) (f i n) A1 A1 A1;have t1:=(b i n).sub (f i n) (e:=81) A1 A1;have Z:=MP t1 (s i n) A1 A1 A1;have t2:=t1.sub (s i n) (e:=138) A1 A1
 have E:stX (fun i=>some (C i)) (fun i=>some (D i)) i n=some (D i*D n -C i*D n -D i*C n):=by unfold stX;rw[g,l,w,I,Z]
 obtain⟨q1,q2⟩:=aJe (x:=D) (y:=D) (fun i=>b i i) (fun i=>g i i) A1 A1;obtain⟨q3,q4⟩:=aJe (x:=C) (y:=D) (fun i=>f i i) (fun i=>l i i) A1 A1;have L:Bq ((2:Int):Rat) 1 0:=Bq.int A1;have Y:=pB L q4 A1 A1;have s3:=MP q2 (L.mul q4) A1 A1 A1;have O:=q2.sub (L.mul q4) (e:=250) A1 A1
 have B:stS (fun i=>some (C i)) (fun i=>some (D i))=some ((0+D 0*D 0+D 1*D 1+D 2*D 2) -((2:Int):Rat)*(0+C 0*D 0+C 1*D 1+C 2*D 2)):=by unfold stS;rw[q1,q3,Y,s3]
 have u:Bq ((7:Int):Rat) 3 0:=Bq.int A1;unfold stK stY;rw[j0.1,J.1,aCs h];have p:((6*7:Int):Rat)=42:=rfl;have q:((120:Int):Rat)=120:=rfl;by_cases T:i=n
 . rw[if_pos T,B,E];show _=kY _ (lB _ (kY _ (some (-_))));rw[sX O t2.neg A1 A1 A1];have v:=O.add t2.neg (e:=400) A1 A1;rw[pB u v A1 A1,sX j0.2 (u.mul v) A1 A1 A1];congr 1;subst T;rw[ky _ A,ky _ A,if_pos rfl,if_pos rfl,Wn h,Wn h,Wn h,Wn h,p,q];simp only[Zv,Rat.intCast_add,Rat.intCast_mul,Rat.intCast_neg,c,U];exact bDg _ _ _ _ _ _ _ _ _ _ _ _ _ _ o rfl
 rw[if_neg T,E];show _=kY _ (lB _ (some (-_)));rw[pB u t2.neg A1 A1,sX j0.2 (u.mul t2.neg) A1 A1 A1];congr 1;rw[ky _ A,ky _ A,if_neg T,if_neg T,Wn h,p,q];simp only[Zv,Rat.intCast_add,Rat.intCast_mul,Rat.intCast_neg,c,U];exact bDi _ _ _ _ _ _ o
theorem Xb{v:aC.V}:vP v=false↔bN (2^12) v:=by grind[vP,bN,Bool.or_eq_false_iff,decide_eq_false_iff_not]
theorem aQp(h:uP ls=0):(∀l∈ls,gD l=0)/\CO ls=false:=by
 unfold uP at h
 grind
theorem aEb{M C L r1:Int}(h:oE name ls M C L r1=0):Bp ls/\CO ls=false:=by
 unfold oE at h;split at h
 . omega
 split at h
 . omega
 split at h
 . omega
 obtain⟨O,Z⟩:=aQp h;refine⟨⟨fun e=>by grind,by omega,fun l U=>?_⟩,Z⟩;obtain⟨a,b⟩:=Vr (O l U);exact⟨a,fun v J=>Xb.1 (b v J)⟩
theorem aId(d:aC.V)(h:Bp ls):CO (xA d ls)=CO ls:=by
 have U:(xA d ls).length=ls.length:=by simp[xA]
 have t:∀i,i<ls.length->(xA d ls).getD i []=mP d (ls.getD i [])/\ls.getD i []≠[]:=fun i F=>by
  have O:ls.getD i []=ls[i]:=by grind
  refine⟨by simp[xA,List.getD,F],?_⟩;rw[O];exact(nB (h.2.2 _ (Ac F)).1).2.2.2.2.2.1
 unfold CO;rw[U,Dc];simp only[Cj,Ax]
 have e:∀i k,i<ls.length->k<i->lP ((xA d ls).getD i []) ((xA d ls).getD k [])=lP (ls.getD i []) (ls.getD k []):=fun i k F E=>by rw[(t i F).1,(t k A0).1];exact bCb d (t i F).2 (t k A0).2
 grind
theorem aMq{M C L r1:Int}(h:oE name ls M C L r1=0){d:aC.V}(K:Bp (xA d ls)):oE name (xA d ls) M C L r1=0:=by
 obtain⟨S,N⟩:=aEb h
 have m:∀l∈xA d ls,gD l=0:=fun l U=>by obtain⟨a,b⟩:=K.2.2 l U;unfold gD;rw[if_neg A0,if_neg];rw[Ew];refine Eh.2 fun v J=>?_;rw[Xb.2 (b v J)];decide
 have U:(xA d ls).length=ls.length:=by simp[xA]
 unfold oE at h ⊢;split at h
 . omega
 rename_i a1;split at h
 . omega
 rename_i Q;split at h
 . omega
 rename_i s;rw[if_neg a1,U,if_neg Q,if_neg s,wO m,aId d S,N];rfl
theorem YL(h:∀v∈ls.flatten,NR v){l:List aC.V}(U:l∈ls){v:aC.V}(J:v∈l):bN 1000 v:=by have :=h v (List.mem_flatten.2 ⟨l,U,J⟩);have o:=this 0 A1;have O:=this 1 A1;have Z:=this 2 A1;simp only[V.at] at o O Z;exact⟨by omega,by omega,by omega⟩
theorem zg{d:aC.V}(h:NR d):bN 1000 d:=by have o:=h 0 A1;have O:=h 1 A1;have Z:=h 2 A1;simp only[V.at] at o O Z;exact⟨by omega,by omega,by omega⟩
theorem Bp.low(S:Bp ls)(h:∀v∈ls.flatten,NR v){d:aC.V}(hd:bN 1000 d):Bp (xA (aC.neg d) ls):=
 S.mv _ fun l U v J=>by
  have :=aOv (aC.neg d) (A:=1000) (B:=1000) (fun v J=>YL h U J) (EK hd) v J
  grind[bN]
theorem aDz(S:Bp ls){d:aC.V}(hd:bN (2^12) d)(a:Bp (xA (aC.neg d) ls))(i:Nat):FI (xA (aC.neg d) ls) i=some ((MB ls i:Rat) / ((4*VB ls:Int):Rat) -(d.at i:Rat))/\yS (FI ls i) (ofV d i)=some ((MB ls i:Rat) / ((4*VB ls:Int):Rat) -(d.at i:Rat)):=by
 obtain⟨_,_,m⟩:=vB S;have o:(VB ls:Rat)≠0:=fun e=>by simp_all
 constructor
 . rw[(IT a i).1,aCs S,bDr S,Zv]
   grind
 rw[(IT S i).1];exact MP (IT S i).2 (Bq.int (lF hd i)) A1 A1 A1
theorem XB(S:Bp ls)(h:∀v∈ls.flatten,NR v)(i:Nat):(MB ls i).natAbs<=1000*(4*VB ls).natAbs:=by
 obtain⟨_,_,m⟩:=vB S
 have one:∀l∈ls,M1 l i<=4000*V6 l/\-(4000*V6 l)<=M1 l i:=fun l U=>by
  obtain⟨O,Z,W,_⟩:=(S.2.2 l U).ou;have J:∀k,k<l.length->((iI l k).at i).natAbs<=1000:=fun k E=>lF (YL h U (tp E)) i;have a:=(O.Zy Z W (un i) 1000 fun k E=>by grind[BF]).2;have b:=(O.Zy Z W (aC.neg (un i)) 1000 fun k E=>by rw[oF,BF];grind).2
  have e:mom (aC.neg (un i)) (iI l) (BJ l)= -M1 l i:=by
   have :mom (aC.neg (un i)) (iI l) (BJ l)=(-1)*M1 l i:=by
    unfold M1 mom;rw[<-mE]
    grind[mE,oF]
   omega
  rw[e] at b;have P:mom (un i) (iI l) (BJ l)=M1 l i:=rfl;have B:WL (iI l) (BJ l)=V6 l:=rfl;omega
 have u:MB ls i<=dB (fun l=>4000*V6 l) ls:=CB fun l U=>(one l U).1;have w:dB (fun l=> -4000*V6 l) ls<=MB ls i:=CB fun l U=>by grind
 rw[mE] at u w;have e:dB V6 ls=VB ls:=rfl;omega
variable{m:Int}
theorem XI{q:Rat}(A:n≠0)(h:q=Rat.divInt m n):q.num*n=m*q.den:=by have e:=Rat.num_divInt_den q;rw[h] at e;rw[<-h] at e;exact(Rat.divInt_eq_divInt_iff (qT q) A).1 (e.trans h)
theorem To{B:Nat}(A:0<n)(h:m.natAbs<=B*n.natAbs):((m:Rat) / (n:Rat)).num.natAbs<=B*((m:Rat) / (n:Rat)).den:=by have e:=XI (q:=(m:Rat) / (n:Rat)) (m:=m) (n:=n) A0 (Rat.divInt_eq_div _ _).symm;have P:=Am Int.natAbs e;rw[El,El,Cp] at P;refine Nat.le_of_mul_le_mul_right (c:=n.natAbs) ?_ A0;rw[P,Ja];exact Bf _ h
noncomputable def orI (ls:List (List aC.V)) (i:Nat):Int:=EP ((MB ls i:Rat) / ((4*VB ls:Int):Rat))
noncomputable def orV (ls:List (List aC.V)):aC.V:=⟨orI ls 0,orI ls 1,orI ls 2⟩
theorem aPt(S:Bp ls)(h:∀v∈ls.flatten,NR v):bN 1000 (orV ls):=by obtain⟨_,_,m⟩:=vB S;have :∀i,(orI ls i).natAbs<=1000:=fun i=>aTs (To A0 (XB S h i));exact⟨this 0,this 1,this 2⟩
theorem aQw(q:Rat)(o:Int):q -(o:Rat)=Rat.divInt (q.num -o*q.den) q.den:=by
 have e:q=(q.num:Rat) / ((q.den:Int):Rat):=by rw[<-Rat.divInt_eq_div];simp
 have a:((q.den:Int):Rat)≠0:=fun e=>qT q (Rat.intCast_eq_zero_iff.1 e);rw[Rat.divInt_eq_div,Rat.intCast_sub,Rat.intCast_mul]
 grind
theorem aFl(q:Rat):SE (Mr (some (q -(EP q:Rat)))) (rQ (some 1) (some 2))<=0:=by
 obtain⟨O,Z⟩:=qi q;have hd:0<(q.den:Int):=by have :=q.den_pos;omega
 have C:=XI A0 (aQw q (EP q));generalize q -(EP q:Rat)=z at *;generalize (q.den:Int)=d at *;have s:0<(z.den:Int):=by have :=z.den_pos;omega
 have B:2*z.num<=z.den:=by refine Int.le_of_mul_le_mul_right (?_:2*z.num*d<=z.den*d) hd;rw[Int.mul_assoc,C,<-Int.mul_assoc,Hj (z.den:Int) d];simp_all
 have n:2* -z.num<=z.den:=by refine Int.le_of_mul_le_mul_right (?_:2* -z.num*d<=z.den*d) hd;rw[Int.mul_assoc,Gn,C,<-Gn,<-Int.mul_assoc,Hj (z.den:Int) d];exact Int.mul_le_mul_of_nonneg_right A0 A0
 have a:rQ (some 1) (some 2)=some (Rat.divInt 1 2):=by rfl
 have A:(Rat.divInt 1 2).num=1:=by decide
 have X:(Rat.divInt 1 2).den=2:=by decide
 have b:∀y:Rat,2*y.num<=y.den->SE (some y) (some (Rat.divInt 1 2))<=0:=fun y Q=>by simp only[SE,sZ,A,X];omega
 have M:aQt (some z)=if z.num<0 then -1 else if z.num=0 then 0 else 1:=rfl
 by_cases h:z.num<0
 . rw[show Mr (some z)=some (-z) from if_pos A0];simp_all
 rw[show Mr (some z)=some (- -z) from if_neg A0];simp_all
def Pa(H:aA)(lo sz:Nat)(v:AV)(els:List (List AV)):Prop:=(v=.bE/\els=[])\/∃k,v=.bJ (k+2) sz els/\els≠[]/\lo<=k/\k<H.next/\H.get k=some .tok
variable{v:AV}{H:aA}{lo sz:Nat}{els:List (List AV)}
theorem Pa.push{bytes:Nat}{e:List AV}(h:Pa H lo sz v els)(E:lo<=H.next)(X:(els.length+1)*bytes<=2^40):
 ∃H',gE H sz bytes false v [e]=some (.bJ (H.next+2) sz (els++[e]),H')/\Pa H' lo sz (.bJ (H.next+2) sz (els++[e])) (els++[e])/\H'.next=H.next+1/\∀id,id<lo->H'.get id=H.get id:=by
 rcases h with ⟨rfl,rfl⟩|⟨k,rfl,_,O,Z,W⟩
 . exact⟨H.alloc .tok,by grind[gE,mQ],.inr ⟨H.next,by simp,by simp,E,by simp,by simp[aA.aI]⟩,by simp,fun id d=>by grind[aA.aI]⟩
 exact⟨(H.set k .dead).alloc .tok,by grind[gE],.inr ⟨H.next,by simp,by simp,E,by simp,by simp[aA.aI]⟩,by simp,fun id d=>by rw[aA.aI,if_neg Zaf,aA.aH,if_neg A0]⟩
variable{H':aA}
theorem Pa.mono(h:Pa H lo sz v els)(A:H.next<=H'.next)(S:∀j,lo<=j->j<H.next->H'.get j=H.get j):Pa H' lo sz v els:=by
 rcases h with h|⟨k,O,M,Z,W,h4⟩
 . exact .inl h
 exact .inr ⟨k,O,M,Z,by omega,by grind⟩
def kz(p:AV×List aC.V):Prop:=∃k,p.1=.bJ k 3 (bR p.2)
theorem aYz(l:List aC.V):vR (bR l)=bR l:=by
 induction l with
 |nil=>rfl
 |cons v l z=>simp only[bR,Cg,vR] at *;rw[z];rfl
theorem mr:∀{ps:List (AV×List aC.V)},(∀p∈ps,kz p)->vR (qH ps)=pE (ps.map (·.2))
 |[],_=>rfl
 |p::r,h=>by have z:=mr (ps:=r) fun q D=>h q (As _ D);obtain⟨k,E⟩:=h p Az;simp only[qH,pE,Cg,Da,vR] at *;simp[z,E,qF,ct,aYz]
theorem _root_.Go.Av.Sound.bRk{P:Program}{g:bL}{f:FuncId}{args:List AV}{a s b:AV}(h:Sound P g f args H (.ret (.jS [a,b])) H')(L:Wk a s):Sound P g f args H (.ret (.jS [s,b])) H':=by
 refine⟨h.1,fun G w vs D J=>(h.2 G w vs D J).mono fun e w' ⟨E,O,Z,W⟩=>⟨E,O,Z,?_⟩⟩
 cases e with
 |returned u=>
  cases W with
  |jS _ us U K=>
   refine .jS _ us U fun j Y=>?_
   match j,Y with
   |0,_=>exact VR.wk L (K 0 A2)
   |1,_=>grind
 |_=>assumption
theorem aEw{x:Int}(h:x.natAbs<=m.natAbs)(p:0<=m):(decide (x>m)||decide (x< -m))=false:=by grind
theorem aKx(hp:ls.length<=8)(U:∀l∈ls,l≠[]/\l.length<=64/\∀v∈l,bN (2^12) v){d:aC.V}(hd:bN (2^12) d)(hm:∀l∈ls,∀v∈mP (aC.neg d) l,bN (2^12) v)(M C L r1:Int):
 FC Tryz.prog gv (W11.1).ntmps (W11.1).body (fD [.agg (bd name ls M C L r1),.agg (cG d)]) [] ⟨0,.nil⟩ (RP (W11.1).results fun o H'=>∃(ps:List (AV×List aC.V)) (v:AV),o=.ret (.jS [.agg (eT name v M C L r1),.int .i64 0])/\ps.map (·.2)=xA (aC.neg d) ls/\(∀p∈ps,kz p)/\Pa H' 4 1 v (qH ps)):=by
 unfold W11;dsimp only;have b6:(bd name ls M C L r1).length=6:=rfl;have ld:=oL (aT d);refine bP ?_;refine Ty ?_;refine bQ ?_;generalize hX:(((aA.mk 0 .nil).alloc _).alloc _).alloc _=I;have a0:=Kv (i:=0) hX;have a1:=Kv (i:=1) hX;have Q:=Kv (i:=2) hX;have an:I.next=3:=by subst hX;rfl
 clear hX;refine bW fun f N=>?_;have s:=Kf (i:=2) N;have c:=Kf (i:=3) N;have m:=Kf (i:=4) N;have f5:=Kf (i:=5) N;clear N;refine bP ?_;refine bP ?_;refine Wz ?_;refine bQ ?_;refine cM [] (fun k _ H'=>H'=I) 3 A1 rfl A1 ?_ ?_ ?_ ?_
 . exact zq
 . rfl
 . rintro k b H1 gA E T rfl;have bb:b 16=.agg (cG d):=E 16 rfl;have t:=iC d gA;have fr:=QE (d.at k) 2305843009213693951 A1;rw[aEw (Ay (lF hd k) A1) A1] at fr;refine aJ ?_;refine bP ?_;have := @aT;have :k<=2:=by omega
   refine Wz ?_;refine bQ ?_;refine Ty ?_;refine fC (fr _) ?_;exact Zbx
 rintro b H1 E rfl;have k2:b 2=.ref 0 0:=by rw[E 2 rfl];simp only[zB,seval];exact s
 have k3:b 3=.ref 1 0:=by rw[E 3 rfl];simp only[zB,seval];exact c
 have k4:b 4=.ref 2 0:=by rw[E 4 rfl];simp only[zB,seval];exact m
 clear E s c m f5 f;refine Tx ?_;refine bQ ?_;have b0:(bd name ls M C L r1).getD 0 aB=.str name:=rfl;have b1:(bd name ls M C L r1).getD 1 aB=.bJ 0 1 (pE ls):=rfl;have c2:((bd name ls M C L r1).drop 2).take 2=[.int .i64 M,.int .i64 C]:=rfl;have c4:((bd name ls M C L r1).drop 4).take 2=[.int .i64 L,.int .i64 r1]:=rfl;generalize bd name ls M C L r1=bc at *;refine bP ?_;refine Wz ?_;refine bQ ?_;generalize hX:aA.set _ _ _=HB;have h0:=Kx (i:=0) hX;have O:=Kx (i:=1) hX;have Z:=Kx (i:=2) hX;have h3:HB.get 3=some (.cells (eT name .bE M C L r1) false):=by subst hX;simp only[zI,seval,an];rfl
 have A:4<=HB.next:=by subst hX;simp only[zI,seval,an]
 clear hX;refine bW fun f N=>?_;have s:=Kg (i:=2) N;have c:=Kg (i:=3) N;have m:=Kg (i:=4) N;have f8:=Kg (i:=8) N;clear N k2 k3 k4 b a0 a1 Q an;have l3:=oL (aT d);have tk:∀i (l:List aC.V),(mP (aC.neg d) l).take i=mP (aC.neg d) (l.take i):=fun i l=>by unfold mP;rw[List.map_take]
 refine aM fun K hK=>?_;refine bP ?_;have := @yM;refine Wy ?_;refine bQ ?_;refine bS [] (fun i _ H'=>∃(ps:List (AV×List aC.V)) (v:AV),ps.map (·.2)=xA (aC.neg d) (ls.take i)/\(∀p∈ps,kz p)/\Pa H' 4 1 v (qH ps)/\H'.get 3=some (.cells (eT name v M C L r1) false)/\H'.get 0=some (.cells bc false)/\H'.get 1=some (.cells (cG d) false)/\H'.get 2=some (.cells [.str [],.bE,.int .i64 0,.int .i64 0,.int .i64 0,.int .i64 0] false)/\4<=H'.next/\ps.length=i) ls.length A0 A1 ?_ ?_ ?_ ?_ ?_
 . exact zq
 . exact zq
 . exact⟨[],.bE,rfl,fun p hp=>(by cases hp),.inl ⟨rfl,rfl⟩,h3,h0,O,Z,A,rfl⟩
 . rintro i b H1 F E T ⟨ps,v,J,dw,S,g3,g0,de,g2,gn,tH⟩;have k2:b 2=.ref 0 0:=by rw[E 2 rfl];simp only[zB,seval];exact s
   have k3:b 3=.ref 1 0:=Zbu;have k8:b 8=.ref 3 0:=(by rw[E 8 rfl];simp only[zB,seval];exact f8);have aj:b 32=.bJ 0 1 (pE ls):=E 32 rfl;have t:=RF F;have ak:=Ac F
   have aE:∀(a:AV),(ps++[(a,mP (aC.neg d) ls[i])]).map (·.2)=xA (aC.neg d) (ls.take (i+1)):=fun a=>by rw[Cd,J];unfold xA;rw[Ao,Cd,Af F];rfl
   obtain⟨z,Xn,aO⟩:=U _ ak;have b2:=hm _ ak;generalize ls[i]=l at *;refine aJ ?_;refine bP ?_;simp only[↓zP,zJ,seval,aj,T,aD,yM,F,t];refine fW ?_;refine Ty ?_;refine bQ ?_;generalize hX:aA.alloc _ _=H2;generalize hr:H1.next=n1 at *;have W:H2.get n1=some (.cells [.bJ 0 3 (bR l)] false):=(by subst hX;rw[aA.aI,if_neg (by simp only[zI,seval,hr];omega),aA.aH,if_pos rfl]);have B:H2.get (n1+1)=some (.cells [.bE] false):=(by subst hX;rw[aA.aI,if_pos (by simp only[zI,seval,hr])]);have un:n1+2=H2.next:=(by subst hX;simp only[zI,seval,hr]);have uo:∀q,q<n1->H2.get q=H1.get q:=fun q D=>by subst hX;rw[aA.aI,if_neg (by simp only[zI,seval,hr];omega),aA.aH,if_neg A0,aA.aI,if_neg A0]
   clear hX;refine bW fun g a6=>?_;have p2:g 2=.ref 0 0:=(by subst a6;simp only[zB,seval,k2]);have p3:g 3=.ref 1 0:=(by subst a6;simp only[zB,seval,k3]);have p8:g 8=.ref 3 0:=(by subst a6;simp only[zB,seval,k8]);have az:g 10=.ref n1 0:=(by subst a6;simp only[zB,seval]);have ag:g 11=.ref (n1+1) 0:=(by subst a6;simp only[zB,seval]);clear a6 k2 k3 k8 aj E;refine aM fun K2 n=>?_;refine bP ?_;simp only[↓zP,zJ,seval,az,W,aU];refine bQ ?_;refine bS [] (fun j _ H'=>∃a,Pa H' (n1+2) 3 a (bR (mP (aC.neg d) (l.take j)))/\H'.get (n1+1)=some (.cells [a] false)/\(∀q,q<n1->H'.get q=H1.get q)/\n1+2<=H'.next) l.length A0 A1 ?_ ?_ ?_ ?_ ?_
   . exact zq
   . exact zq
   . exact⟨.bE,.inl ⟨rfl,rfl⟩,B,uo,by omega⟩
   . rintro j g1 X Y E e3 ⟨a,a7,gc,Xk,b5⟩;have q3:g1 3=.ref 1 0:=(E 3 rfl).trans p3;have ab:g1 11=.ref (n1+1) 0:=(E 11 rfl).trans ag;have af:g1 39=.bJ 0 3 (bR l):=E 39 rfl;have b4:=cH Y;have yw:=aO _ (Ac Y);have b3:bN (2^12) (aC.add (aC.neg d) l[j]):=b2 _ (Bb.2 ⟨l[j],Ac Y,rfl⟩)
     have uL:mP (aC.neg d) (l.take (j+1))=mP (aC.neg d) (l.take j)++[aC.add (aC.neg d) l[j]]:=by unfold mP;rw[Ao,Cd];simp[Y]
     have bf:(mP (aC.neg d) (l.take j)).length<=64:=(by rw[sT,Et];omega);rw[uL];generalize mP (aC.neg d) (l.take j)=els at *;generalize l[j]=p at *;have y:=(Xk 1 A0).trans de;have lp:=oL (aT p);have aF:aC.sub p d=aC.add (aC.neg d) p:=(by refine V.ext' ?_ ?_ ?_<;>simp only[aC.add,aC.neg,aC.sub]<;>omega);have sb:=GL yw hd A1;rw[aF] at sb;generalize aC.add (aC.neg d) p=w at *;have R:=oL (aT w);refine aJ ?_;refine bP ?_;simp only[↓zP,zJ,seval,af,e3,aD,aU,Y,b4,lp];refine bQ ?_;generalize hX:aA.set _ _ _=H4;have v9:=Kz hX;have vo:∀q,q<X.next->H4.get q=X.get q:=fun q D=>by subst hX;rw[aA.aH,if_neg A0,aA.aI,if_neg A0]
     have vn:H4.next=X.next+1:=(by subst hX;simp only[aA.aZ,aA.bK]);clear hX;generalize HN:X.next=u at *;refine bW fun g2 GS=>?_;have r3:=Kg (i:=3) GS;have ay:=Kg (i:=11) GS;have P:=Kf (i:=13) GS;clear GS q3 ab af E;refine bP ?_;have d1:=(vo 1 A0).trans y;simp only[↓zP,zJ,seval,r3,P,v9,d1,lp,ld];refine fC (sb _) ?_;simp only[↓zP,zJ,seval,P,v9,aT,R];refine bQ ?_;generalize hX:aA.set _ _ _=r;have w9:r.get u=some (.cells (cG w) false):=(by subst hX;rw[aA.aH,if_pos rfl,Bc (by rw[aT];decide),Bx]);have wo:∀q,q<u->r.get q=X.get q:=fun q D=>by subst hX;rw[aA.aH,if_neg A0];exact vo q D
     have wn:r.next=u+1:=(by subst hX;rw[aA.aZ];exact vn);clear hX vo vn v9 d1;refine bW fun bk ad=>?_;have ar:=Kg (i:=11) ad;have ae:=Kg (i:=13) ad;clear ad r3 ay P;refine aM fun K3 x=>?_;refine bP ?_;simp only[↓zP,zJ,seval,ae,w9,R];refine bQ ?_;refine cM [] (fun k _ H'=>H'=r) 3 A1 rfl A1 ?_ ?_ ?_ ?_
     . exact zq
     . rfl
     . rintro k g4 H gA E e4 rfl;have aq:g4 48=.agg (cG w):=E 48 rfl;have Xu:=iC w gA;have fr:=QE (w.at k) 4096 A1;rw[aEw (Ay (lF b3 k) A1) A1] at fr;refine aJ ?_;refine bP ?_;simp only[↓zP,zJ,seval,aq,e4,aD,gA,Xu,aT,show k<=2 by omega];refine bQ ?_;refine Ty ?_;refine fC (fr _) ?_;exact Zbx
     rintro g4 H E rfl;have b9:g4 11=.ref (n1+1) 0:=(E 11 rfl).trans ar;have b7:g4 13=.ref u 0:=(E 13 rfl).trans ae;clear E;refine Tx ?_;apply x;clear x K3;have ba:Pa H (n1+2) 3 a (bR els):=a7.mono A0 fun q _ D=>wo q A0;have al:=(wo (n1+1) A0).trans gc;obtain⟨H7,z1,z2,z3,z4⟩:=ba.push (bytes:=24) (e:=cG w) A0 (by rw[aU];omega);have y5:=(z4 (n1+1) A0).trans al;simp only[↓zP,zJ,seval,b9,b7,al,w9,R,show dJ H 3 (.bJ 1 3 [cG w])=some [cG w] from rfl,z1,y5];rw[show bR (els++[w])=bR els++[cG w] by simp[bR]];exact⟨_,z2.mono A2 fun q O _=>by rw[aA.aH,if_neg A0],rfl,fun q D=>by rw[if_neg A0,z4 q A0,wo q A0];exact Xk q D,by omega⟩
   rintro g1 X E ⟨a,a7,gc,Xk,b5⟩;have q8:g1 8=.ref 3 0:=(E 8 rfl).trans p8;have ab:g1 11=.ref (n1+1) 0:=(E 11 rfl).trans ag;rw[Aq] at a7;clear E;refine Tx ?_;apply n;clear n K2;have c3:=(Xk 3 A0).trans g3;have aN:Pa X 4 1 v (qH ps):=S.mono A0 fun q _ D=>Xk q A0;have dt:(qH ps).length=ps.length:=Ah _;obtain⟨H7,z1,z2,z3,z4⟩:=aN.push (bytes:=24) (e:=[a]) A0 (by rw[dt];omega);have y3:=(z4 3 A0).trans c3;simp only[eT] at c3 y3;simp only[↓zP,zJ,seval,q8,ab,c3,gc,show dJ X 1 (.bJ 1 1 [[a]])=some [[a]] from rfl,z1,y3]
   have aK:kz (a,mP (aC.neg d) l):=by
    rcases a7 with ⟨_,h⟩|⟨k,E,_⟩
    . have h:=Am List.length h;rw[aU,sT] at h;exact absurd (Hv.1 h) z
    exact⟨_,E⟩
   refine⟨ps++[(a,mP (aC.neg d) l)],_,aE a,fun p hp=>?_,?_,rfl,((z4 0 A0).trans (Xk 0 A0)).trans g0,((z4 1 A0).trans (Xk 1 A0)).trans de,((z4 2 A0).trans (Xk 2 A0)).trans g2,by omega,by simp[tH]⟩
   . rcases Ar.1 hp with hp|hp
     . exact dw p hp
     rw[Bw.1 hp];exact aK
   rw[show qH (ps++[(a,mP (aC.neg d) l)])=qH ps++[[a]] by simp[qH]];exact z2.mono A2 fun q O _=>by rw[aA.aH,if_neg A0]
 rintro b H1 E ⟨ps,v,J,dw,S,g3,g0,g1,g2,gn,tH⟩;have k4:b 4=.ref 2 0:=by rw[E 4 rfl];simp only[zB,seval];exact m
 have k8:b 8=.ref 3 0:=by rw[E 8 rfl];simp only[zB,seval];exact f8
 rw[Aq] at J;have lb:(eT name v M C L r1).length=6:=rfl;refine Tx ?_;apply hK;clear hK K;have :=oL lb;refine Wz ?_;refine⟨rfl,_,by simp only[↓zP,zR,seval,k4,oL lb];rfl,?_⟩;exact⟨ps,v,rfl,J,dw,S.mono A2 fun q O _=>by rw[aA.aH,if_neg A0]⟩
theorem aDt(m:ls.length<=8)(z:ls≠[])(U:∀l∈ls,l≠[]/\l.length<=64/\∀v∈l,bN (2^12) v){d:aC.V}(hd:bN (2^12) d)(p:∀l∈ls,∀v∈mP (aC.neg d) l,bN (2^12) v)(M C L r1:Int)(H:aA):
 Sg 11 [.agg (bd name ls M C L r1),.agg (cG d)] H (.ret (.jS [.agg (bd name (xA (aC.neg d) ls) M C L r1),.int .i64 0])) H:=by
 obtain⟨_,H',⟨ps,v,rfl,J,j,S⟩,u⟩:=dM fit bQb (Ai rfl) (aKx (name:=name) m U hd p M C L r1);refine(u.bRk (WM _)).frame eE (by simp[sf,sM,bV]) (tk:=none) (fun k E=>by grind) (n:=0) H ?_
 have e:ct (.agg (eT name v M C L r1))=.agg (bd name (xA (aC.neg d) ls) M C L r1):=by
  rcases S with ⟨_,h⟩|⟨k,rfl,_⟩
  . have h:=Fu.1 h;rw[h] at J;exact absurd (Fu.1 J.symm) z
  simp only[ct,qF,eT,bd,mr j,J]
 show jB _ none _ 0 (AV.jS [ct (.agg (eT name v M C L r1)),.int .i64 0])=_;rw[e];exact sJ (by simp[sf,sM])
theorem BG:∀{k a:List _} {l b:List _},cD k a a=some true->cD l b b=some true->cD (k++l) (a++b) (a++b)=some true
 |[],[],l,b,_,h=>h
 |[],_::_,_,_,h,_=>by grind[cD]
 |z::k,[],_,_,h,_=>by grind[cD]
 |z::k,x::a,l,b,h,h2=>by have key:cD k a a=some true->cD (k++l) (a++b) (a++b)=some true:=fun h=>BG h h2;cases z<;>cases x<;>simp[cD] at h ⊢ <;>exact key h
def o8:List Sk:=[.b,.b,.i,.i,.i,.i,.i,.i,.i,.i,.i,.i,.i,.i,.i,.i,.i,.i]
variable{v:List AV}
theorem QC{x:Option Int}(h:dN v x):cD o8 v v=some true:=by obtain⟨b,n,l,U,rfl,rfl⟩:=h;unfold o8;simp only[cD,FM U.1 U.1,Ct,Hg,Dk,Gw]
theorem LB{x:Option Rat}(h:gM v x):cD (o8++o8) v v=some true:=by obtain⟨a,b,n,d,rfl,O,Z,_⟩:=h;exact BG (QC O) (QC Z)
variable{c:Nat->List AV}
theorem aEs(h:∀i,i<3->gM (c i) (x i)):cD ((o8++o8)++((o8++o8)++(o8++o8))) (c3 c) (c3 c)=some true:=
 BG (k:=o8++o8) (LB (h 0 A1)) (BG (k:=o8++o8) (LB (h 1 A1)) (LB (h 2 A1)))
theorem aNj{x:Option Rat}(h:gM v x):cD [.b,.b,.i,.i,.i,.i,.i,.i,.i,.i,.i,.i,.i,.i,.i,.i,.i,.i,.b,.b,.i,.i,.i,.i,.i,.i,.i,.i,.i,.i,.i,.i,.i,.i,.i,.i] v v=some true:=LB h
theorem aNk(h:∀i,i<3->gM (c i) (x i)):cD [.b,.b,.i,.i,.i,.i,.i,.i,.i,.i,.i,.i,.i,.i,.i,.i,.i,.i,.b,.b,.i,.i,.i,.i,.i,.i,.i,.i,.i,.i,.i,.i,.i,.i,.i,.i,.b,.b,.i,.i,.i,.i,.i,.i,.i,.i,.i,.i,.i,.i,.i,.i,.i,.i,.b,.b,.i,.i,.i,.i,.i,.i,.i,.i,.i,.i,.i,.i,.i,.i,.i,.i,.b,.b,.i,.i,.i,.i,.i,.i,.i,.i,.i,.i,.i,.i,.i,.i,.i,.i,.b,.b,.i,.i,.i,.i,.i,.i,.i,.i,.i,.i,.i,.i,.i,.i,.i,.i] (c3 c) (c3 c)=some true:=aEs h
theorem aNi{x:Option Int}(h:dN v x):cD [.b,.b,.i,.i,.i,.i,.i,.i,.i,.i,.i,.i,.i,.i,.i,.i,.i,.i] v v=some true:=QC h
theorem gM.sub{x y:Option Rat}{w:List AV}(J:gM v x)(L:gM w y):gM (eB (yS x y)) (yS x y):=.add J L.neg
theorem kc{j k c d:Nat->Option Rat}(hj:∀p,p<9->gM (eB (j p)) (j p))(ak:∀p,p<9->gM (eB (k p)) (k p))(R:∀i,gM (eB (c i)) (c i))(hd:∀i,gM (eB (d i)) (d i))(hs:∀i n,i<3->n<3->k (3*i+n)=stK j c d i n)(H:aA):
 Sg 39 [.agg (mC j),.agg (mC k),.agg (c3 fun i=>eB (c i)),.agg (c3 fun i=>eB (d i))] H (.ret (.bool true)) H:=by
 refine So bQi (by simp only[sf,sP,dZ fun i _=>cS (c i),dZ fun i _=>cS (d i)]) ?_ H;unfold W39;dsimp only;simp only[lJ];have ar:∀x,(mC x).getD 2 aB=.bJ 0 36 (mR x 9):=fun _=>rfl;have gl:∀x,(mC x).length=3:=fun _=>rfl;have wc:ZR (c3 fun i=>eB (c i)) c:=⟨_,rfl,fun i _=>R i⟩;have wd:ZR (c3 fun i=>eB (d i)) d:=⟨_,rfl,fun i _=>hd i⟩;have W:=fun x=>fA x;have U:∀x:Nat->Option Rat,(c3 fun i=>eB (x i)).length=108:=fun x=>jC fun i _=>W _;have b9:((9:Int) != 9)=false:=rfl;refine bP ?_;refine Ty ?_;refine bQ ?_;generalize hX:((((aA.mk 0 .nil).alloc _).alloc _).alloc _).alloc _=I;have a0:=Kv (i:=0) hX;have a1:=Kv (i:=1) hX;have Q:=Kv (i:=2) hX;have a3:=Kv (i:=3) hX;have an:I.next=4:=by subst hX;rfl
 have aF:bH I:=by subst hX;exact((((bH.nil _).alloc _).alloc _).alloc _).alloc _
 clear hX;refine bP ?_;have := @yJ;refine Wz ?_;refine fW ?_;refine fT 1 A1 aF.vm fun H1 n1 T=>?_;have aE:=Tv wd wd;have az:=Tv wc wd;have o2:=EU (z:=2) A1 A1;have m2:=sU (gM.int (z:=2) A1 A1) (gM.sQ c d 3);have A:=PK (gM.sQ d d 3) (gM.mul (x:=some ((2:Int):Rat)) (y:=sQ c d 3));rw[show yS (sQ d d 3) (lB (some ((2:Int):Rat)) (sQ c d 3))=stS c d from rfl] at A;have lS:=oL (W (stS c d));have :=oL (U d);have :=oL (U c);have :=oL gT;refine Wz ?_;refine bQ ?_;generalize hX:aA.set _ 4 _=HB
 replace a0:=Kx (i:=0) hX
 replace a1:=Kx (i:=1) hX
 replace Q:=Kx (i:=2) hX
 replace a3:=Kx (i:=3) hX
 have a4:=Kv (i:=4) hX;have bn:5<=HB.next:=by subst hX;simp only[zI,seval,n1,an]
 have bF:bH HB:=by
  subst hX;have aq:bH H1:=fun j hj=>by rw[T j];exact aF j A0
  exact(aq.set A0 _).set ZaY _
 clear hX aF;refine bW fun f N=>?_;have f4:=Kf (i:=4) N;have f5:=Kf (i:=5) N;have f6:=Kf (i:=6) N;have f7:=Kf (i:=7) N;have f9:=Kf (i:=9) N;clear N an n1 T H1
 obtain⟨J,hJ⟩:∃J:aA->Prop,J=fun H'=>H'.get 0=some (.cells (mC j) false)/\H'.get 1=some (.cells (mC k) false)/\H'.get 2=some (.cells (c3 fun i=>eB (c i)) false)/\H'.get 3=some (.cells (c3 fun i=>eB (d i)) false)/\H'.get 4=some (.cells (eB (stS c d)) false)/\5<=H'.next/\bH H':=⟨_,rfl⟩
 have j0:J HB:=by rw[hJ];exact⟨a0,a1,Q,a3,a4,bn,bF⟩
 clear a0 a1 Q a3 a4 bn bF;refine aM fun K hK=>?_;refine bP ?_;refine Tz ?_;refine bQ ?_;refine cM [] (fun _ _ H'=>J H') 3 A1 rfl A1 ?_ ?_ ?_ ?_
 . exact zq
 . exact j0
 . rintro i b H1 Z E T j0;have k4:b 4=.ref 0 0:=by rw[E 4 rfl];simp only[zB,seval];exact f4
   have k5:b 5=.ref 1 0:=Zbr;have k6:b 6=.ref 2 0:=(by rw[E 6 rfl];simp only[zB,seval];exact f6);have k7:b 7=.ref 3 0:=(by rw[E 7 rfl];simp only[zB,seval];exact f7);have k9:b 9=.ref 4 0:=(by rw[E 9 rfl];simp only[zB,seval];exact f9);clear E;refine aJ ?_;refine bP ?_;simp only[↓zP,zG,seval,T];refine fW ?_;refine Tz ?_;refine bQ ?_;refine cM [] (fun _ _ H'=>J H') 3 A1 rfl A1 ?_ ?_ ?_ ?_
   . exact zq
   . exact j0
   . rintro n s w S E e2 j1;have q4:s 4=.ref 0 0:=Zbs;have q5:s 5=.ref 1 0:=(by rw[E 5 rfl];simp only[zB,seval];exact k5);have v:s 6=.ref 2 0:=(by rw[E 6 rfl];simp only[zB,seval];exact k6);have u:s 7=.ref 3 0:=(by rw[E 7 rfl];simp only[zB,seval];exact k7);have q9:s 9=.ref 4 0:=(by rw[E 9 rfl];simp only[zB,seval];exact k9);have a7:s 10=.int .i64 i:=E 10 rfl;clear E;rw[hJ] at j1;obtain⟨g0,g1,g2,C,o,l,gF⟩:=j1;have ab:∀(x:Nat->Option Rat) i,i<3->(eB (x i)).length=36:=fun x i _=>W _;have ci:=oS (ab c) Z;have cn:=oS (ab c) S;have di:=oS (ab d) Z;have dn:=oS (ab d) S;refine aJ ?_;refine bP ?_;simp only[↓zP,zG,seval,e2];refine bQ ?_;have x1:=sU (hd i) (hd n);have x2:=sU (R i) (hd n);have x3:=PK (gM.mul (x:=d i) (y:=d n)) (gM.mul (x:=c i) (y:=d n));have x4:=sU (hd i) (R n);have x5:=PK (.sub (gM.mul (x:=d i) (y:=d n)) (gM.mul (x:=c i) (y:=d n))) (gM.mul (x:=d i) (y:=c n));rw[show yS (yS (lB (d i) (d n)) (lB (c i) (d n))) (lB (d i) (c n))=stX c d i n from rfl] at x5;have iX:gM (eB (stX c d i n)) (stX c d i n):=.sub (.sub .mul .mul) .mul;have X:∀i:Nat,i<3->i*36+36<=108:=fun i hi=>by omega
     refine bP ?_;refine fT 1 A1 gF.vm fun H3 n3 B=>?_;simp only[↓zP,zJ,seval,zD,u,a7,B,C,aD,Z,S,U,di,dn,X i Z,X n S];refine gH (x1 _) ?_;simp only[↓zP,zJ,seval,zD,v,u,a7,B,g2,C,aD,Z,S,U,ci,dn,X i Z,X n S];refine gH (x2 _) ?_;simp only[seval];refine gH (x3 _) ?_;simp only[↓zP,zJ,seval,zD,v,u,a7,B,g2,C,aD,Z,S,U,di,cn,X i Z,X n S];refine gH (x4 _) ?_;simp only[seval];refine gH (x5 _) ?_;simp only[↓zP,zJ,seval,zD,n3,B,W,oL gT];refine bQ ?_;generalize hX:aA.set _ w.next _=H5;generalize V:w.next=r at *;have y0:=Kw hX B g0;have e:=Kw hX B g1;have y2:=Kw hX B g2;have y3:=Kw hX B C;have y4:=Kw hX B o;have yr:=Kz hX;have O:H5.next=r+1:=by subst hX;simp only[zI,seval,n3]
     have yF:bH H5:=by
      subst hX;have al:bH H3:=fun q D=>by rw[B q];exact gF q A0
      exact(al.set A0 _).set ZaY _
     clear hX B n3 gF g0 g1 g2 C o x1 x2 x3 x4 x5;refine bW fun g t=>?_;have p4:=Kg (i:=4) t;have L:=Kg (i:=5) t;have p9:=Kg (i:=9) t;have aj:=Kg (i:=10) t;have ag:=Kf (i:=11) t;have ae:=Kf (i:=12) t;clear t q4 q5 v u q9 a7;have ng:=PJ iX;refine bP ?_;simp only[↓zP,zJ,seval,ae,yr,W,oL (W (stX c d i n))];refine fC (ng _) ?_;simp only[↓zP,zJ,seval,O,W,oL gT];refine bQ ?_;generalize hX:aA.set _ _ _=H6;have z0:=Ku hX y0;have z1:=Ku hX e;have z2:=Ku hX y2;have z3:=Ku hX y3;have z4:=Ku hX y4;have zr:=Kz hX;have zn:H6.next=r+2:=(by subst hX;simp only[zI,seval,O]);have zF:bH H6:=(by subst hX;exact(yF.alloc _).set (by simp only[zI,seval,O];omega) _);clear hX y0 e y2 y3 y4 yr O yF;refine bW fun g2 M=>?_;have h:=Kg (i:=4) M;have F:=Kg (i:=5) M;have r9:=Kg (i:=9) M;have a6:=Kg (i:=10) M;have a:=Kg (i:=11) M;have P:=Kf (i:=13) M;clear M p4 L p9 aj ag ae
     have iY:gM (eB (stY c d i n)) (stY c d i n):=by
      unfold stY;split
      . exact .add (.sub (gM.sQ d d 3) .mul) iX.neg
      exact iX.neg
     refine aM fun K hK=>?_
     have key:∀(g:dD) (H7:aA),g 4=.ref 0 0->g 5=.ref 1 0->g 10=.int .i64 i->g 11=.int .i64 n->g 13=.ref (r+1) 0->H7.get (r+1)=some (.cells (eB (stY c d i n)) false)->(∀q,q≠r+1->H7.get q=H6.get q)->H7.next=r+2->K g [] H7:=by intro g H7 h F a6 a P af so sn;apply hK;clear hK K;have Y:=(so 0 A0).trans z0;have A:=(so 1 A0).trans z1;have w1:IntKind.i64.wrap (3*(i:Int))=((3*i:Nat):Int):=wI A0;have w2:IntKind.i64.wrap (((3*i:Nat):Int)+(n:Int))=((3*i+n:Nat):Int):=wI A0;have m:3*i+n<9:=A0;have gj:=Ve j m;have gk:=Ve k m;have o7:=EU (z:=7) A1 A1;have m7:=sU (gM.int (z:=7) A1 A1) iY;have ad:=GF (hj _ m) (gM.mul (x:=some ((7:Int):Rat)) (y:=stY c d i n));rw[show kY (j (3*i+n)) (lB (some ((7:Int):Rat)) (stY c d i n))=k (3*i+n) from (hs i n Z S).symm] at ad;have ay:=aNj (ak _ m);refine bP ?_;refine Dz ?_;simp only[↓zP,zJ,seval,zD,h,F,a6,a,Y,A,gl,ar,w1,w2,aD,yJ,m,gj,gk,W,oL (W (j (3*i+n))),oL (W (k (3*i+n)))];refine gH (o7 _) ?_;simp only[↓zP,zJ,seval,zD,P,af,W,oL (W (stY c d i n))];refine gH (m7 _) ?_;simp only[seval];refine gH (ad _) ?_;simp only[↓zP,zJ,seval,zD,ay];refine bQ ?_;refine Tz ?_;rw[hJ];exact⟨Y,A,(so 2 A0).trans z2,(so 3 A0).trans z3,(so 4 A0).trans z4,by omega,fun q D=>by rw[so q A0];exact zF q A0⟩
     clear hK;by_cases iG:i=n
     . have hd:((i:Int)==n)=true:=Dl.2 A0;have eY:stY c d i n=kY (stS c d) (xB (stX c d i n)):=if_pos iG;have iS:gM (eB (stS c d)) (stS c d):=.sub (gM.sQ d d 3) .mul;have ad:=GF iS iX.neg;rw[show kY (stS c d) (xB (stX c d i n))=stY c d i n from eY.symm] at ad;refine bP ?_;simp only[↓zP,zG,seval,a6,a,hd];refine bQ ?_;simp only[↓zP,zJ,seval,r9,P,z4,zr,W,oL (W (stS c d)),oL (W (xB (stX c d i n)))];refine fC (ad _) ?_;simp only[↓zP,zJ,seval,P,zr,W];refine key _ _ (by simp only[zB,seval,h]) (by simp only[zB,seval,F]) (by simp only[zB,seval,a6]) (by simp only[zB,seval,a]) (by simp only[zB,seval,P]) ?_ (fun q D=>by rw[aA.aH,if_neg D]) (by rw[aA.aZ];exact zn);rw[aA.aH,if_pos rfl,Bc (by rw[W];decide),Bx]
     have hd:((i:Int)==n)=false:=Cy.2 A0;have eY:stY c d i n=xB (stX c d i n):=if_neg iG;rw[<-eY] at zr;refine bP ?_;refine Wz ?_;refine bQ ?_;refine Tz ?_;exact key _ _ (by simp only[zB,seval,h]) (by simp only[zB,seval,F]) (by simp only[zB,seval,a6]) (by simp only[zB,seval,a]) (by simp only[zB,seval,P]) zr (fun _ _=>rfl) zn
   rintro s w E j1;exact j1
 rintro b H1 E j0;refine Tx ?_;apply hK;clear hK K;refine Tz ?_;exact ZaD
end Go.Proofs.YtogfcjbgeebfkaaGreatDoor
namespace Go.Proofs.YtogfcjbgeebfkaaGreatDoor
open Go Go.Av
def sE:List AV:=[1,10,100,1000,10000,100000,1000000,10000000,100000000,1000000000,10000000000,100000000000,1000000000000,10000000000000,100000000000000,1000000000000000,10000000000000000,100000000000000000,1000000000000000000,10000000000000000000].map (AV.int .u64)
def QK(n:Nat):Option (List AV):=match Nat.beq n 3 with
 |true=>some sE
 |false=>match Nat.beq n 999999999 with
  |true=>some []
  |false=>none
def mG:bL:=Go.Av.Ry Tryz.prog QK
abbrev St(f:FuncId)(args:List AV)(H:aA)(out:Out)(H':aA):Prop:=Sound Tryz.prog mG f args H out H'
theorem SM:Fit Tryz.prog mG:=qc (by kernel_rfl)
theorem yG:KS mG:=fun n cs h=>by
 have h:QK n=some cs:=h;unfold QK at h;split at h
 . cases h;rfl
 split at h
 . cases h;rfl
 cases h
theorem moT:mG.mo=false:=rfl
theorem ZD{f:FuncId}{args:List AV}{v:AV}(I:cW args=true)(J:v.free=true)(h:∀H,Sg f args H (.ret v) H)(H:aA):Sound Tryz.prog mG f args H (.ret v) H:=
 (Sound.up (g:=gv) (g':=mG) (fun n cs h=>by cases h) rfl moT (h ⟨0,.nil⟩)).frame yG I (tk:=none) (fun k E=>by cases E) (n:=0) H (sJ J)
theorem bDo{K:List Fact}(h:vK Tryz.prog gv K)(N:(K.all fun e=>cW e.2.1&&e.2.2.free)=true):vK Tryz.prog mG K:=fun e B H=>by have :=Bh.1 N e B;rw[Ak] at this;exact ZD this.1 this.2 (h e B) H
def W5T:{x:DC // AG Tryz.prog mG false Tryz.f5=some x}:=⟨
 ⟨97,[.tmp 4],.seq (.ops [⟨(some 2),.box (.tmp 0),none⟩,⟨(some 3),.box (.tmp 1),none⟩,⟨(some 4),.wE (.const (.bool false)),none⟩]) (.seq (.seq (.ops [⟨(some 14),.load true 6 (.tmp 2),none⟩,⟨(some 15),.call (.const (.func (.func 7) [] [])) [(.tmp 14)],none⟩,⟨(some 16),.un .not (.tmp 15),none⟩,⟨(some 17),.wE (.tmp 16),none⟩,⟨(some 18),.load true 6 (.tmp 2),
   some (17,false)⟩,⟨(some 19),.load true 3 (.tmp 3),some (17,false)⟩,⟨(some 20),.call (.const (.func (.func 35) [] [])) [(.tmp 18),(.tmp 19)],some (17,false)⟩,⟨(some 21),.un .not (.tmp 20),some (17,false)⟩,⟨(some 22),.pick (.tmp 17) (.const (.bool true)) (.tmp 21),none⟩]) (.cond (.tmp 22) (.seq (.ops [⟨(some 23),.call (.const (.func (.func 9)
   [] [])) [],none⟩,⟨(some 4),.wE (.tmp 23),none⟩]) (.ret)) (.skip))) (.seq (.ops [⟨(some 25),.load true 6 (.tmp 2),none⟩,⟨(some 26),.load true 3 (.tmp 3),none⟩,⟨(some 27),.call (.const (.func (.func 11) [] [])) [(.tmp 25),(.tmp 26)],none⟩,⟨(some 24),.wE (.tmp 27),none⟩,⟨(some 28),.QD (.tmp 24) 0,none⟩,⟨(some 29),.QD (.tmp 24) 1,none⟩,⟨(some 5),.alloc [.str [],
   .bE,.int .i64 0,.int .i64 0,.int .i64 0,.int .i64 0],none⟩,⟨none,.store 6 (.tmp 5) (.tmp 28),none⟩,⟨(some 6),.wE (.tmp 29),none⟩]) (.seq (.seq (.draw [⟨(some 30),.wE (.tmp 6),none⟩,⟨(some 31),.bin .neq (.tmp 30) (.const (.int .i64 0)),none⟩,⟨(some 32),.wE (.tmp 31),none⟩,⟨(some 33),.load true 6 (.tmp 5),some (32,false)⟩,⟨(some 34),.call (.const (.func (.func
   36) [] [])) [(.tmp 33)],some (32,false)⟩,⟨(some 35),.bin .neq (.tmp 34) (.const (.int .i64 0)),some (32,false)⟩,⟨(some 36),.pick (.tmp 32) (.const (.bool true)) (.tmp 35),none⟩,⟨(some 37),.wE (.tmp 36),none⟩,⟨(some 38),.VA 0 (.tmp 5),some (37,false)⟩,⟨(some 39),.load false 1 (.tmp 38),some (37,false)⟩,⟨(some 40),.VA 0 (.tmp 2),some (37,false)⟩,⟨(some 41),
   .load false 1 (.tmp 40),some (37,false)⟩,⟨(some 42),.bin .neq (.tmp 39) (.tmp 41),some (37,false)⟩,⟨(some 43),.pick (.tmp 37) (.const (.bool true)) (.tmp 42),none⟩,⟨(some 44),.wE (.tmp 43),none⟩,⟨(some 45),.load true 6 (.tmp 5),some (44,false)⟩,⟨(some 46),.call (.const (.func (.func 13) [] [])) [(.tmp 45)],some (44,false)⟩,⟨(some 47),.load true 6 (.tmp 2),some
   (44,false)⟩,⟨(some 48),.call (.const (.func (.func 13) [] [])) [(.tmp 47)],some (44,false)⟩,⟨(some 49),.eqf true [.b,.b,.i,.i,.i,.i,.i,.i,.i,.i,.i,.i,.i,.i,.i,.i,.i,.i] (.tmp 46) (.tmp 48),some (44,false)⟩,⟨(some 50),.pick (.tmp 44) (.const (.bool true)) (.tmp 49),none⟩] [(17,16),(4,21),(18,21),(4,22),(18,22)]) (.cond (.tmp 50) (.seq (.ops [⟨(some
   4),.wE (.const (.bool false)),none⟩]) (.ret)) (.skip))) (.seq (.draw [⟨(some 51),.load true 6 (.tmp 2),none⟩,⟨(some 52),.call (.const (.func (.func 15) [] [])) [(.tmp 51)],none⟩,⟨(some 53),.load true 3 (.tmp 3),none⟩,⟨(some 54),.call (.const (.func (.func 37) [] [])) [(.tmp 53)],none⟩,⟨(some 7),.alloc GZ,none⟩,⟨(some 8),.alloc GZ,none⟩,⟨none,.store
   108 (.tmp 7) (.tmp 52),none⟩,⟨none,.store 108 (.tmp 8) (.tmp 54),none⟩] [(2,1),(4,1),(4,3),(5,1),(5,3)]) (.seq (.seq (.draw [⟨(some 55),.load true 6 (.tmp 5),none⟩,⟨(some 56),.call (.const (.func (.func 15) [] [])) [(.tmp 55)],none⟩,⟨(some 57),.load true 108 (.tmp 7),none⟩,⟨(some 58),.load true 108 (.tmp 8),none⟩,⟨(some 59),.call (.const (.func (.func
   38) [] [])) [(.tmp 57),(.tmp 58)],none⟩,⟨(some 60),.eqf true [.b,.b,.i,.i,.i,.i,.i,.i,.i,.i,.i,.i,.i,.i,.i,.i,.i,.i,.b,.b,.i,.i,.i,.i,.i,.i,.i,.i,.i,.i,.i,.i,.i,.i,.i,.i,.b,.b,.i,.i,.i,.i,.i,.i,.i,.i,.i,.i,.i,.i,.i,.i,.i,.i,.b,.b,.i,.i,.i,.i,.i,.i,.i,.i,.i,.i,.i,.i,.i,.i,.i,.i,.b,.b,.i,.i,.i,.i,.i,.i,
   .i,.i,.i,.i,.i,.i,.i,.i,.i,.i,.b,.b,.i,.i,.i,.i,.i,.i,.i,.i,.i,.i,.i,.i,.i,.i,.i,.i] (.tmp 56) (.tmp 59),none⟩,⟨(some 61),.wE (.tmp 60),none⟩,⟨(some 62),.load true 6 (.tmp 2),some (61,false)⟩,⟨(some 63),.call (.const (.func (.func 40) [] [])) [(.const (.int .i64 7))],some (61,false)⟩,⟨(some 64),.call (.const (.func (.func 20) [] []))
   [(.tmp 62),(.tmp 63)],some (61,false)⟩,⟨(some 65),.load true 6 (.tmp 5),some (61,false)⟩,⟨(some 66),.call (.const (.func (.func 40) [] [])) [(.const (.int .i64 7))],some (61,false)⟩,⟨(some 67),.call (.const (.func (.func 20) [] [])) [(.tmp 65),(.tmp 66)],some (61,false)⟩,⟨(some 68),.load true 108 (.tmp 7),some (61,false)⟩,⟨(some 69),.load true 108 (.tmp
   8),some (61,false)⟩,⟨(some 70),.call (.const (.func (.func 39) [] [])) [(.tmp 64),(.tmp 67),(.tmp 68),(.tmp 69)],some (61,false)⟩,⟨(some 71),.un .not (.tmp 70),some (61,false)⟩,⟨(some 72),.pick (.tmp 61) (.const (.bool true)) (.tmp 71),none⟩] [(2,1),(3,1),(7,8),(10,8),(10,9),(10,11),(13,8),(13,9),(13,11),(13,12),(14,8),(14,9),(14,11),
   (14,12),(4,18),(15,18),(1,19),(1,22),(1,23),(4,19),(15,19)]) (.cond (.tmp 72) (.seq (.ops [⟨(some 4),.wE (.const (.bool false)),none⟩]) (.ret)) (.skip))) (.seq (.draw [⟨(some 74),.load true 6 (.tmp 2),none⟩,⟨(some 75),.load true 6 (.tmp 2),none⟩,⟨(some 76),.call (.const (.func (.func 17) [] [])) [(.tmp 75)],none⟩,⟨(some 77),.call (.const (.func (.func
   11) [] [])) [(.tmp 74),(.tmp 76)],none⟩,⟨(some 73),.wE (.tmp 77),none⟩,⟨(some 78),.QD (.tmp 73) 0,none⟩,⟨(some 79),.QD (.tmp 73) 1,none⟩,⟨(some 9),.alloc [.str [],.bE,.int .i64 0,.int .i64 0,.int .i64 0,.int .i64 0],none⟩,⟨none,.store 6 (.tmp 9) (.tmp 78),none⟩,⟨(some 10),.wE (.tmp 79),none⟩] [(0,2),(7,2),(7,3)]) (.seq (.ops [⟨(some 80),.call
   (.const (.func (.func 41) [] [])) [(.const (.int .i64 1)),(.const (.int .i64 2))],none⟩,⟨(some 11),.alloc Mc,none⟩,⟨none,.store 36 (.tmp 11) (.tmp 80),none⟩]) (.seq (.seq (.ops [⟨(some 81),.load true 6 (.tmp 9),none⟩,⟨(some 82),.call (.const (.func (.func 15) [] [])) [(.tmp 81)],none⟩,⟨(some 83),.wE (.const (.int .i64 0)),none⟩]) (.block 0 (.loop (.seq (.ops
   [⟨(some 84),.bin .lss (.tmp 83) (.const (.int .i64 3)),none⟩]) (.seq (.cond (.tmp 84) (.skip) (.exit 0)) (.seq (.block 1 (.seq (.ops [⟨(some 85),.idx 3 36 true (.tmp 82) (.tmp 83),none⟩,⟨(some 13),.alloc Mc,none⟩,⟨none,.store 36 (.tmp 13) (.tmp 85),none⟩]) (.seq (.draw [⟨(some 86),.load true 36 (.tmp 13),none⟩,⟨(some 87),.call (.const (.func (.func 43) [] [])) [(.tmp 86)],
   none⟩,⟨(some 88),.load true 36 (.tmp 11),none⟩,⟨(some 89),.call (.const (.func (.func 42) [] [])) [(.tmp 87),(.tmp 88)],none⟩,⟨(some 90),.bin .gtr (.tmp 89) (.const (.int .i64 0)),none⟩] [(2,1),(3,5),(1,6),(1,9),(3,6)]) (.cond (.tmp 90) (.seq (.ops [⟨(some 4),.wE (.const (.bool false)),none⟩]) (.ret)) (.skip))))) (.ops [⟨(some 91),.bin .add (.tmp 83) (.const (.int
   .i64 1)),none⟩,⟨(some 83),.wE (.tmp 91),none⟩]))))))) (.seq (.ops [⟨(some 92),.call (.const (.func (.func 9) [] [])) [],none⟩,⟨(some 93),.wE (.tmp 92),none⟩,⟨(some 94),.wE (.tmp 10),some (93,true)⟩,⟨(some 95),.bin .eql (.tmp 94) (.const (.int .i64 0)),some (93,true)⟩,⟨(some 96),.pick (.tmp 93) (.tmp 95) (.const (.bool false)),none⟩,⟨(some 4),.wE
   (.tmp 96),none⟩]) (.ret))))))))))⟩,by kernel_rfl⟩
theorem bQt:iM Tryz.prog mG false 5 W5T.1:=dW Tryz.func5 (by kernel_rfl) W5T.2
end Go.Proofs.YtogfcjbgeebfkaaGreatDoor
