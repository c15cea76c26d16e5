/-
  Part of the proof of statement 9
-/
import Derived.Test.YtogfcjbgeebfkaaGreatDoorA23
import Derived.Test.YtogfcjbgeebfkaaGreatDoorA19
import Derived.Test.YtogfcjbgeebfkaaGreatDoorA18
import Derived.Test.YtogfcjbgeebfkaaGreatDoorA07
import Derived.Test.YtogfcjbgeebfkaaGreatDoorA06
set_option linter.unusedSimpArgs false
set_option linter.unusedVariables false
set_option maxRecDepth 100000
set_option maxHeartbeats 16000000
namespace Go.Proofs.YtogfcjbgeebfkaaGreatDoor
open Go Go.Av Go.aC
variable{l:List aC.V}{S:List (aC.V×Int)}{L:aC.V×Int->List Nat}
theorem tq(u:vJ l S L)(Q:l.length<=64):∀q∈S,(L q).length<=64:=fun q D=>by obtain⟨s,r,m,e,W,h⟩:=(u.po q D).ex;rw[h,Ah,Bv];have O:=W.le;have Z:=Db (fun k=>decide (aC.dot q.1 (l.getD k V0)=q.2)) (List.range l.length);rw[Bv] at Z;have a:(iE (fun i=>l.getD i V0) l.length q.1 q.2).length<=l.length:=Z;omega
theorem aNe:∀T:List (aC.V×Int),(∀q∈T,(L q).length<=64)->(KH T L).length<=T.length*64:=fun T=>by
 induction T with
 |nil=>simp[KH]
 |cons q T z=>intro h;have O:=z fun x C=>h x (As _ C);have Z:=h q Az;have W:=nY (fun i=>if(L q).getD i 0<(L q).getD ((i+1)%(L q).length) 0 then [((((L q).getD i 0:Nat):Int),(((L q).getD ((i+1)%(L q).length) 0:Nat):Int))] else []) 1 (fun i=>by split<;>simp) (List.range (L q).length);rw[Bv,Df] at W;have h4:(ZT (L q) (L q).length).length<=(L q).length:=W;simp only[KH,Dw,An,Ba,Bo,Fk] at O ⊢;omega
theorem BP(u:vJ l S L){x:Int×Int}:
 x∈KH S L↔∃q∈S,∃a b:Nat,aC.Next (L q) a b/\a<b/\x=pN (a,b):=by
 simp only[KH,Ed];constructor
 . rintro⟨q,D,C⟩;simp only[ZT,Ed,Ax] at C;obtain⟨i,F,C⟩:=C;split at C
   . rename_i h;rw[Bw] at C;refine⟨q,D,(L q).getD i 0,(L q).getD ((i+1)%(L q).length) 0,⟨i,F,?_,?_⟩,h,C⟩
     all_goals grind
   grind
 rintro⟨q,D,a,b,⟨i,F,O,Z⟩,j,rfl⟩;refine⟨q,D,?_⟩;simp only[ZT,Ed,Ax];refine⟨i,F,?_⟩;have T:(L q).getD i 0=a:=by grind
 have P:(L q).getD ((i+1)%(L q).length) 0=b:=by grind
 simp_all[T,P,if_pos,j,pN]
theorem QB(U:l.Pairwise iO){S:List (aC.V×Int)}{L:aC.V×Int->List Nat}(u:vJ l S L)(z:S≠[]):KH S L≠[]:=by
 obtain⟨q,r,rfl⟩:=Ek z;have D:=Az (a:=q) (l:=r);have n:=(u.fl.mem q).1 D;have G:=u.po q D
 have Q:0<(L q).length:=by obtain⟨s,p,m,e,W,h⟩:=G.ex;rw[h];simpa using W.pos
 have J:(0+1)%(L q).length<(L q).length:=Bz _ Q;have F:aC.Next (L q) (L q)[0] (L q)[(0+1)%(L q).length]:=⟨0,Q,Af Q,Af J⟩;generalize (L q)[0]=a at *;generalize (L q)[(0+1)%(L q).length]=b at *;have d:=G.lZ.1 F;have j:b≠a:=d.2.2.1
 rcases Er a b with h|h
 . have :pN (a,b)∈KH (q::r) L:=(BP u).2 ⟨q,D,a,b,F,h,rfl⟩
   grind
 obtain⟨f,d',g,i,o,k⟩:=G.back (BA U) n F;have y:=(u.fl.mem (f,d')).2 i;have c:=o.uniq (u.po _ y);rw[c] at k;have :pN (b,a)∈KH (q::r) L:=(BP u).2 ⟨(f,d'),y,b,a,k,by omega,rfl⟩
 grind
theorem Te{tag:Nat}(j:Nat.blt tag 2=true){l:List aC.V}(o:mS l=0):∃U:List aC.V,U.length<=2^20/\(∀v,v∈U↔IsE l v)/\(∀v∈U,bN (2^19) v)/\
 (∀H,Sg 182 [.agg [.bJ tag 3 (bR l)]] H (.ret (.bJ (H.next+2) 5 ((dY l).map (cX (fU l))))) (H.alloc .tok))/\
 ∀H,Sg 183 [.agg [.bJ tag 3 (bR l)]] H (.ret (.bJ 0 3 (bR U))) H:=by
 obtain⟨M,_,z,f,Q,d,A⟩:=nB o;have g:=jO M;obtain⟨E,P,S,u⟩:=aCg j A (Ae _) Q g z f;have w:∀x∈E,∃q∈dY l,∃a b:Nat,aC.Next (fU l q) a b/\a<b/\x=pN (a,b):=fun x C=>(BP g).1 (P.mem_iff.1 C)
 have Y:E=(E.map fun x=>(x.1.toNat,x.2.toNat)).map pN:=by rw[Da];refine(Fv E).symm.trans (Dd fun x C=>?_);obtain⟨q,D,a,b,_,_,rfl⟩:=w x C;simp[pN]
 have G:E.length<=2^20:=by rw[P.length_eq];have :=aNe (L:=fU l) (dY l) (tq g Q);have :(dY l).length*64<=64*64:=Be f (Ae _);omega
 have n:E≠[]:=fun h=>QB M g z (by rw[h] at P;exact List.Perm.eq_nil P.symm);generalize c:(E.map fun x=>(x.1.toNat,x.2.toNat))=i at *
 have I:∀p:Nat×Nat,p∈i↔∃q∈dY l,aC.Next (fU l q) p.1 p.2/\p.1<p.2:=fun p=>by
  rw[<-c,Bb];constructor
  . rintro⟨x,C,rfl⟩;obtain⟨q,D,a,b,O,Z,rfl⟩:=w x C;exact⟨q,D,by simpa [pN] using O,by simpa [pN] using Z⟩
  rintro⟨q,D,O,Z⟩;exact⟨pN p,P.mem_iff.2 ((BP g).2 ⟨q,D,p.1,p.2,O,Z,rfl⟩),by simp[pN]⟩
 have s:∀q∈dY l,∀a b,aC.Next (fU l q) a b->a<l.length/\b<l.length:=fun q D a b h=>by have O:=(g.po q D).lZ.1 h;exact⟨(cJ.1 O.1).1,(cJ.1 O.2.1).1⟩
 refine⟨i.map (HJ l),?_,?_,?_,fun H=>FE j A (Ae _) Q g z H,fun H=>vp j A (Ae _) (E:=i) ?_ ?_ ?_ ?_ H⟩
 . rw[Ah,<-c,Ah];exact G
 . intro v;rw[Bb];constructor
   . rintro⟨p,m,rfl⟩;obtain⟨q,D,O,Z⟩:=(I p).1 m;have W:=(g.po q D).lZ.1 O;exact⟨q,(g.fl.mem q).1 D,p.1,p.2,W.2,W.1,Z,rfl⟩
   rintro⟨q,D,a,b,O,Z,W,rfl⟩;have y:=(g.fl.mem q).2 D;exact⟨(a,b),(I (a,b)).2 ⟨q,y,(g.po q y).lZ.2 ⟨Z,O⟩,W⟩,rfl⟩
 . intro v J;obtain⟨p,m,rfl⟩:=Bb.1 J;obtain⟨q,D,O,Z⟩:=(I p).1 m;obtain⟨R,B⟩:=s q D _ _ O
   have t:∀k,k<l.length->bN (2^18) (l.getD k V0):=fun k r=>by have :l.getD k V0=l[k]:=(by simp[List.getD,r]);rw[this];exact A _ (Ac r)
   exact gU (t _ B) (t _ R)
 . rw[<-c,Ah];exact G
 . intro e;rw[<-c,Fu] at e;exact n e
 . intro p m;obtain⟨q,D,O,Z⟩:=(I p).1 m;exact s q D _ _ O
 rw[<-Y];exact u
theorem Ur{ta tb:Nat}(f:Nat.blt ta 2=true)(e:Nat.blt tb 2=true){a b:List aC.V}(I:mS a=0)(X:mS b=0)(H:aA):
 Sg 31 [.agg [.bJ ta 3 (bR a)],.agg [.bJ tb 3 (bR b)]] H (.ret (.bool (lP a b))) H:=by
 obtain⟨U,S,O,E,t,m⟩:=Te f I;obtain⟨W,P,N,y,g,J⟩:=Te e X;obtain⟨z,_,a6,T,Z,F,j⟩:=nB I;obtain⟨v,_,p,o,r,k,x⟩:=nB X;have c:=jO z;have G:=jO v
 have s:∀n,n∈mF (dY a) (dY b) U W↔IsD a b n:=fun n=>by
  have C:∀(l:List aC.V) (M:l.Pairwise iO),n∈(dY l).map (·.1)↔∃d,oM (fun i=>l.getD i V0) l.length n d:=fun l M=>by
   rw[Bb];constructor
   . rintro⟨q,D,rfl⟩;exact⟨q.2,((lT l).mem q).1 D⟩
   rintro⟨d,hd⟩;exact⟨(n,d),((lT l).mem (n,d)).2 hd,rfl⟩
  have Y:n∈Mw U W↔∃u w,IsE a u/\IsE b w/\n=aC.aY u w/\n≠V0:=by
   simp only[Mw,Ed,Jb];constructor
   . rintro⟨u,K,w,L,h⟩;split at h
     . cases h
     rename_i R;obtain rfl:=Aa h;exact⟨u,w,(O u).1 K,(N w).1 L,rfl,R⟩
   rintro⟨u,w,K,L,rfl,A⟩;exact⟨u,(O u).2 K,w,(N w).2 L,by rw[if_neg A]⟩
  unfold mF IsD;rw[Cd,Ar,Ar,C a z,C b v,Y,or_assoc]
 have Q:lP a b=(mF (dY a) (dY b) U W).any (oJ a b):=by rw[Dc,Cj];rw[nS];exact exists_congr fun n=>and_congr_left' (s n).symm
 rw[Q];refine Wh f e j x (Ae _) A0 A0 F k (MU:=2^19) A1 t g m J E y T o p S P (B:=2*(2^19*2^19)) (fun n A=>?_) A1 H
 rcases(s n).1 A with ⟨d,h⟩|⟨d,h⟩|⟨u,w,K,L,rfl,_⟩
 . exact sA (q:=(n,d)) j h
 . exact sA (q:=(n,d)) x h
 exact iQ (E u ((O u).2 K)) (y w ((N w).2 L))
end Go.Proofs.YtogfcjbgeebfkaaGreatDoor
namespace Go.Proofs.YtogfcjbgeebfkaaGreatDoor
open Go Go.Av Go.jG Go.aC
variable{z:Int}
theorem uy{x y:Option Int}(h:nL x y=some z):∃a b,x=some a/\y=some b/\z=a+b:=by
 cases x with
 |none=>cases h
 |some a=>cases y with
  |none=>cases h
  |some b=>exact⟨a,b,rfl,rfl,(NY h).1⟩
theorem NV{x y:Option Int}(h:lY x y=some z):∃a b,x=some a/\y=some b/\z=a*b:=by
 cases x with
 |none=>cases h
 |some a=>cases y with
  |none=>cases h
  |some b=>exact⟨a,b,rfl,rfl,(NY h).1⟩
theorem aHc{n d:Option Int}{q:Rat}(h:rQ n d=some q):∃a b,n=some a/\d=some b/\b≠0/\q=Rat.divInt a b:=by
 cases n with
 |none=>cases h
 |some a=>cases d with
  |none=>cases h
  |some b=>grind[rQ]
variable{z:Rat}
theorem NW{x y:Option Rat}(h:lB x y=some z):∃a b,x=some a/\y=some b/\z=a*b:=by
 cases x with
 |none=>cases h
 |some a=>cases y with
  |none=>cases h
  |some b=>grind[lB]
theorem FH{x y:Option Rat}(h:kY x y=some z):∃a b,x=some a/\y=some b/\z=a+b:=by
 cases x with
 |none=>cases h
 |some a=>cases y with
  |none=>cases h
  |some b=>
   refine⟨a,b,rfl,rfl,?_⟩;obtain⟨N,D,O,Z,r,rfl⟩:=aHc h;obtain⟨_,_,W,h4,rfl⟩:=uy O;obtain⟨_,_,T,P,rfl⟩:=NV W;obtain⟨_,_,B,U,rfl⟩:=NV h4;obtain⟨_,_,u,v,rfl⟩:=NV Z;obtain rfl:=Aa P;obtain rfl:=Aa u;obtain rfl:=Aa v;have I:((a.den:Nat):Int)≠0:=(by have :=a.den_nz;omega);have X:((b.den:Nat):Int)≠0:=(by have :=b.den_nz;omega);have t:((Int.gcd a.den b.den:Nat):Int)≠0:=fun o=>I (by have :=(Kr (a:=(a.den:Int)) (b:=(b.den:Int))).1 A0;exact this.1);obtain⟨p,m⟩:=En (a.den:Int) (b.den:Int);obtain⟨q,i⟩:=Dq (a.den:Int) (b.den:Int);generalize ((Int.gcd a.den b.den:Nat):Int)=g at *;have d:(a.den:Int).fdiv g=p:=(by rw[m,vQ t]);have f:(b.den:Int).fdiv g=q:=(by rw[i,vQ t]);have c:p*(b.den:Int)≠0:=(by rw[<-d];exact r);rw[d,f]
   have e:a+b=Rat.divInt (a.num*b.den+b.num*a.den) (a.den*b.den):=by
    conv=>lhs;rw[<-Rat.num_divInt_den a,<-Rat.num_divInt_den b]
    rw[Rat.divInt_add_divInt _ _ I X]
   rw[e,Rat.divInt_eq_divInt_iff c (Int.mul_ne_zero I X)]
   grind
variable{x:Nat->Option Rat}{y:Rat}
theorem aJg{q:aC.V×Int}(h:sdQ q x=some y):∃a b c,x 0=some a/\x 1=some b/\x 2=some c/\y=(q.1.x:Rat)*a+(q.1.y:Rat)*b+(q.1.z:Rat)*c:=by obtain⟨d,f,Z,k2,rfl⟩:=FH h;obtain⟨A,C,O,k1,rfl⟩:=FH Z;obtain⟨e,M,o,k0,rfl⟩:=FH O;obtain⟨g,a,Y,p,rfl⟩:=NW k0;obtain⟨n1,b,T,Q,rfl⟩:=NW k1;obtain⟨n2,c,P,l,rfl⟩:=NW k2;obtain rfl:=Aa o;obtain rfl:=Aa Y;obtain rfl:=Aa T;obtain rfl:=Aa P;refine⟨a,b,c,p,Q,l,?_⟩;rw[show((0:Int):Rat)=0 from rfl,Rat.zero_add];rfl
theorem aEc{d:Int}(h:SE (some (d:Rat)) (some y)=1):y<(d:Rat):=by grind[SE,sZ,Rat.lt_iff]
theorem InQ.int{S:List (aC.V×Int)}(h:InQ S x){X:aC.V}{w:Int}(L:0<w)(o:∀a,x 0=some a->a=Rat.divInt X.x w)(O:∀a,x 1=some a->a=Rat.divInt X.y w)(Z:∀a,x 2=some a->a=Rat.divInt X.z w):∀q∈S,dot q.1 X<w*q.2:=by
 intro q D;obtain⟨y,Q,R⟩:=h q D;obtain⟨a,b,c,Y,T,P,rfl⟩:=aJg Q;have r:=aEc R;rw[o a Y,O b T,Z c P] at r
 have key:(q.1.x:Rat)*Rat.divInt X.x w+(q.1.y:Rat)*Rat.divInt X.y w+(q.1.z:Rat)*Rat.divInt X.z w=((dot q.1 X:Int):Rat) / (w:Rat):=by
  simp only[Rat.divInt_eq_div,Rat.div_def,dot,Rat.intCast_add,Rat.intCast_mul]
  grind
 rw[key,Rat.div_lt_iff (Rat.intCast_pos.2 L),<-Rat.intCast_mul,Rat.intCast_lt_intCast] at r
 grind
noncomputable def BJ (l:List aC.V):List ((aC.V×Int)×List Nat):=(dY l).map fun q=>(q,fU l q)
variable{l:List aC.V}
theorem aOf(h:l.Pairwise iO):Md (iI l) l.length (BJ l) where
 fl:=by
  have e:(BJ l).map Prod.fst=dY l:=by unfold BJ;rw[Da];exact Fv _
  rw[e];exact lT l
 po:=by intro e B;obtain⟨q,D,rfl⟩:=Bb.1 B;exact(jO h).po q D
theorem AO(y:Nat×Nat×Nat->Int):dB y (oY (dY l) (fU l))=dB (fun e=>dB y (lC e.2)) (BJ l):=by simp[oY,BJ,CA,tQ]
theorem tp{k:Nat}(h:k<l.length):iI l k∈l:=by
 have :iI l k=l[k]:=by simp[iI,List.getD,h]
 grind
attribute [local congr] aX aQ aR aL bA aW aS aG bB
attribute [local irreducible] FC bT eI
theorem ZR.c{v:List AV}{x:Nat->Option Rat}(h:ZR v x):∃c,v=c3 c/\(∀i,i<3->gM (c i) (x i))/\∀i,i<3->(c i).length=36:=by obtain⟨c,rfl,R⟩:=h;exact⟨c,rfl,R,fun i F=>(R i F).len⟩
variable{y:Nat->Option Rat}{v w:List AV}
theorem aIl(J:ZR v x)(L:ZR w y)(H:aA):Sg 62 [.agg v,.agg w] H (.ret (.agg (c3 fun i=>eB (kY (x i) (y i))))) H:=by
 refine Sp bKv Zau Zaw ?_ H;unfold W62;dsimp only;simp only[wT];obtain⟨c,rfl,R,B⟩:=J.c;obtain⟨d,rfl,hd,n⟩:=L.c;have W:=fun x=>fA x;refine bP ?_;refine Ty ?_;refine bQ ?_;generalize G:(((aA.mk 0 .nil).alloc _).alloc _).alloc _=I;have p:=Kv (i:=0) G;have a1:=Kv (i:=1) G;have Q:=Kv (i:=2) G;clear G;refine bW fun f N=>?_;have s:=Kf (i:=2) N;have q:=Kf (i:=3) N;have m:=Kf (i:=4) N;clear N;refine aM fun K hK=>?_;refine bP ?_;refine Tz ?_;refine bQ ?_;refine cM [] (fun k _ H'=>H'.get 0=some (.cells (c3 fun j=>if j<k then eB (kY (x j) (y j)) else c j) false)/\H'.get 1=some (.cells (c3 d) false)/\H'.get 2=some (.cells GZ false)) 3 A1 rfl A1 ?_ ?_ ?_ ?_
 . exact zq
 . simp only[Al,Cv];exact⟨p,a1,Q⟩
 . rintro k u r a E T ⟨g0,g,o⟩;have k2:u 2=.ref 0 0:=by rw[E 2 rfl];simp only[zB,seval];exact s
   have k3:u 3=.ref 1 0:=by rw[E 3 rfl];simp only[zB,seval];exact q
   have P:∀j,j<3->(if j<k then eB (kY (x j) (y j)) else c j).length=36:=fun j Y=>by split<;>first|exact W _|exact B j Y
   have D:=oS P a;rw[if_neg (Ec k)] at D;have b:=oS n a;have mk:=GF (R k a) (hd k a);exact Zah
 rintro u r E ⟨g0,g,o⟩;have k2:u 2=.ref 0 0:=by rw[E 2 rfl];simp only[zB,seval];exact s
 have k4:u 4=.ref 2 0:=by rw[E 4 rfl];simp only[zB,seval];exact m
 have e:(c3 fun j=>if j<3 then eB (kY (x j) (y j)) else c j)=c3 fun i=>eB (kY (x i) (y i)):=iJ fun j Y=>if_pos Y;rw[e] at g0;have P:∀j,j<3->(eB (kY (x j) (y j))).length=36:=fun j _=>W _;exact Zap
variable{x:Option Rat}
theorem aAj(J:gM v x)(L:ZR w y)(H:aA):Sg 63 [.agg v,.agg w] H (.ret (.agg (c3 fun i=>eB (lB x (y i))))) H:=by
 refine Sp bKw Zau Zaw ?_ H;unfold W63;dsimp only;simp only[wT];obtain⟨d,rfl,hd,n⟩:=L.c;have X:=J.len;have W:=fun x=>fA x;refine bP ?_;refine Ty ?_;refine bQ ?_;generalize G:(((aA.mk 0 .nil).alloc _).alloc _).alloc _=I;have p:=Kv (i:=0) G;have a1:=Kv (i:=1) G;have Q:=Kv (i:=2) G;clear G;refine bW fun f N=>?_;have s:=Kf (i:=2) N;have q:=Kf (i:=3) N;have m:=Kf (i:=4) N;clear N;refine aM fun K hK=>?_;refine bP ?_;refine Tz ?_;refine bQ ?_;refine cM [] (fun k _ H'=>H'.get 1=some (.cells (c3 fun j=>if j<k then eB (lB x (y j)) else d j) false)/\H'.get 0=some (.cells v false)/\H'.get 2=some (.cells GZ false)) 3 A1 rfl A1 ?_ ?_ ?_ ?_
 . exact zq
 . simp only[Al,Cv];exact⟨a1,p,Q⟩
 . rintro k u r a E T ⟨g,g0,o⟩;have k2:u 2=.ref 0 0:=by rw[E 2 rfl];simp only[zB,seval];exact s
   have k3:u 3=.ref 1 0:=by rw[E 3 rfl];simp only[zB,seval];exact q
   have P:∀j,j<3->(if j<k then eB (lB x (y j)) else d j).length=36:=fun j Y=>by split<;>first|exact W _|exact n j Y
   have b:=oS P a;rw[if_neg (Ec k)] at b;have mk:=sU J (hd k a);refine aJ ?_;refine bP ?_;refine Wy ?_;refine bQ ?_;refine Dz ?_;simp only[↓zP,zJ,seval,zD,k2,k3,aD,a,g0,g,jC P,X,b,oL X,show k*36+36<=108 by omega];refine gH (mk _) ?_;simp only[↓zP,zJ,seval,zD,k3,aD,a,g,W,jC P,show k*36+36<=108 by omega];rw[RL P a (W _)];refine⟨Am (fun l=>eG.cells l false) (iJ fun j _=>?_),g0,o⟩;by_cases h:j=k
   . exact ZaE
   exact Zal
 rintro u r E ⟨g,g0,o⟩;have k3:u 3=.ref 1 0:=by rw[E 3 rfl];simp only[zB,seval];exact q
 have k4:u 4=.ref 2 0:=by rw[E 4 rfl];simp only[zB,seval];exact m
 have e:(c3 fun j=>if j<3 then eB (lB x (y j)) else d j)=c3 fun i=>eB (lB x (y i)):=iJ fun j Y=>if_pos Y;rw[e] at g;have P:∀j,j<3->(eB (lB x (y j))).length=36:=fun j _=>W _;exact Zap
def Us(x y:Option Rat):Option Rat:=match y with
 |some q=>lB x (rQ (some (q.den:Int)) (some q.num))
 |none=>none
theorem rp{y:Option Rat}(J:gM v x)(L:gM w y)(H:aA):Sg 66 [.agg v,.agg w] H (.ret (.agg (eB (Us x y)))) H:=by
 refine Sp bKz Zau Zat ?_ H;unfold W66;dsimp only;simp only[lJ];have a:=mA L;have X:=J.len;have R:=L.len;refine bP ?_;refine Ty ?_;refine bQ ?_;refine aM fun K hK=>?_;have :=oL R;refine Wy ?_
 cases y with
 |none=>simp only[Co];have :=rG;have :=oL (show SC.length=36 from rfl);have :=oL (show Mc.length=36 from rfl);refine Wy ?_;refine⟨rfl,_,by simp only[↓zP,zR,seval,oL (show SC.length=36 from rfl)];rfl,?_⟩;rfl
 |some q=>
  obtain⟨rfl,N⟩:=L.some;have mk:=rH (.enc (z:=(q.den:Int)) Zck) (.enc (z:=q.num) N.1);simp only[Bi];refine Ty ?_;apply hK;clear hK K;have B:(cQ q).length=36:=R;have f:(cQ q).take 18=cI q.num:=by unfold cQ;rw[Cb Zcz];exact(oL (cC _)).2.1
  have b:((cQ q).drop 18).take 18=cI (q.den:Int):=by unfold cQ;rw[Ep Zcz,(oL (cC _)).2.2,Dt];exact(oL (cC _)).2.1
  have c:=sU J (gM.mk (.enc (z:=(q.den:Int)) Zck) (.enc (z:=q.num) N.1));have E:=oL (fA (Us x (some q)));refine bP ?_;refine Dz ?_;have :=oL X;refine Wz ?_;rw[show lB x (rQ (some (q.den:Int)) (some q.num))=Us x (some q) from rfl];simp only[↓zP,zJ,seval,zD,E,oL (show Mc.length=36 from rfl)];exact ZaH
end Go.Proofs.YtogfcjbgeebfkaaGreatDoor
namespace Go.Proofs.YtogfcjbgeebfkaaGreatDoor
open Go Go.Av
attribute [local congr] aX aQ aR aL bA aW aS aG bB
attribute [local irreducible] FC bT eI
def fk(c:Nat):Bool:=decide (97<=c|||32)&&decide (c|||32<=122)&&decide (c<128)
def IU(i c:Nat):Bool:=fk c||(!decide (i=0)&&(decide (c=95)||(decide (48<=c)&&decide (c<=57))))
def rN(s:List UInt8):Bool:=(List.range s.length).all (fun k=>IU k (s.getD k 0).toNat)&&(decide (1<=s.length)&&decide (s.length<=32))
theorem Rk(s:List UInt8):(UH s).length=s.length:=by simp[UH]
theorem aKb{s:List UInt8}{i:Nat}(h:i<s.length):(UH s).getD i []=[.int .u8 ((s.getD i 0).toNat:Nat)]:=by simp[UH,List.getD,h]
theorem aKi(s:List UInt8)(Q:s.length<2^63)(H:aA):Sg 102 [.str s] H (.ret (.bool (rN s))) H:=by
 refine Sp bGe Zac Zac ?_ H;unfold aUd;dsimp only;simp only[↓zP,zJ,seval,Rk];refine bS [] (fun i vs H'=>∀k,k<i->IU k (s.getD k 0).toNat=true) s.length A0 A1 ?_ ?_ ?_ ?_ ?_
 . exact zq
 . exact zq
 . exact fun k E=>absurd E (Al _)
 . rintro i f H1 F E T r;have t:=aKb F;have p:(s.getD i 0).toNat<2^8:=(s.getD i 0).toNat_lt
   have W:IU i (s.getD i 0).toNat=true->∀k,k<i+1->IU k (s.getD k 0).toNat=true:=fun h k E=>by
    by_cases e:k=i
    . subst e;exact h
    exact r k A0
   have a:IU i (s.getD i 0).toNat=false->rN s=false:=fun h=>by
    have :(List.range s.length).all (fun k=>IU k (s.getD k 0).toNat)=false:=by rw[Ie];exact⟨i,Ax.2 F,by rw[h];decide⟩
    unfold rN;rw[this];rfl
   generalize (s.getD i 0).toNat=c at *;have w:zK .or .u8 (c:Int) (32:Int)=some (.int .u8 ((c|||32:Nat):Int)):=aMl (k:=.u8) rfl p (b:=32) A1;have S:decide (((c|||32:Nat):Int)≥97)=decide (97<=c|||32):=(by rw[Aw];omega);have v:decide (((c|||32:Nat):Int)<=122)=decide (c|||32<=122):=(by rw[Aw];omega);have d3:decide ((c:Int)<128)=decide (c<128):=(by rw[Aw];omega);have x:((i:Int)==0)=decide (i=0):=by rw[Ii,Aw];omega
   have d:((c:Int) != 95)= !decide (c=95):=by have :((c:Int)==95)=decide (c=95):=(by rw[Ii,Aw];omega);rw[bne,this]
   have j:decide ((c:Int)<48)= !decide (48<=c):=Zca;have q:decide ((c:Int)>57)= !decide (c<=57):=Zca;refine aJ ?_;refine bP ?_;simp only[↓zP,zJ,seval,T,E 7 rfl,aD,Rk,F,t];refine bQ ?_;refine aM fun D n=>?_
   have key:∀u:dD,u 3=.int .i64 i->u 4=.int .u8 c->u 5=.bool (fk c)->D u [] H1:=by
    intro u g l U;apply n;clear n D;unfold IU at W a
    cases m:fk c with
    |true=>rw[m] at U W;simp only[↓zP,zJ,seval,U];exact W A2
    |false=>
     rw[m] at U W a
     cases h4:decide (i=0) with
     |true=>rw[h4] at x a;simp only[↓zP,zJ,seval,U,g,x];exact⟨rfl,[.bool false],by simp only[uN,Sf,zB,seval],by rw[a A2];rfl⟩
     |false=>
      rw[h4] at x W a
      cases M:decide (c=95) with
      |true=>rw[M] at d W;simp only[↓zP,zJ,seval,U,g,l,x,d];exact W A2
      |false=>
       rw[M] at d W a
       cases R:decide (48<=c) with
       |false=>rw[R] at j a;simp only[↓zP,zJ,seval,U,g,l,x,d,j];exact⟨rfl,[.bool false],by simp only[uN,Sf,zB,seval],by rw[a A2];rfl⟩
       |true=>
        rw[R] at j W a
        cases o:decide (c<=57) with
        |false=>rw[o] at q a;simp only[↓zP,zJ,seval,U,g,l,x,d,j,q];exact⟨rfl,[.bool false],by simp only[uN,Sf,zB,seval],by rw[a A2];rfl⟩
        |true=>rw[o] at q W;simp only[↓zP,zJ,seval,U,g,l,x,d,j,q];exact W A2
   clear n W a x d j q;unfold fk at key
   cases O:decide (97<=c|||32) with
   |false=>rw[O] at S key;simp only[↓zP,zG,seval,w,S];exact key _ zq zq Zco
   |true=>
    rw[O] at S key
    cases Z:decide (c|||32<=122) with
    |false=>rw[Z] at v key;simp only[↓zP,zG,seval,w,S,v];exact key _ zq zq Zco
    |true=>rw[Z] at v key;simp only[↓zP,zG,seval,w,S,v,d3];exact key _ zq zq Zco
 rintro f H1 E r
 have W:(List.range s.length).all (fun k=>IU k (s.getD k 0).toNat)=true:=by rw[Bh];exact fun k E=>r k (Ax.1 E)
 unfold rN;rw[W];have A:f 0=.str s:=E 0 rfl;have S:decide ((s.length:Int)≥1)=decide (1<=s.length):=by rw[Aw];omega
 have v:decide ((s.length:Int)<=32)=decide (s.length<=32):=by rw[Aw];omega
 cases O:decide (1<=s.length) with
 |false=>rw[O] at S;simp only[↓zP,zG,seval,A,S];exact⟨rfl,[.bool false],by simp only[uN,Sf,zB,seval],rfl⟩
 |true=>rw[O] at S;simp only[↓zP,zG,seval,A,S,v];exact⟨rfl,[.bool (decide (s.length<=32))],by simp only[uN,Sf,zB,seval],rfl⟩
end Go.Proofs.YtogfcjbgeebfkaaGreatDoor
namespace Go.Proofs.YtogfcjbgeebfkaaGreatDoor
open Go Go.Av Go.aC
attribute [local congr] aX aQ aR aL bA aW aS aG bB
attribute [local irreducible] FC bT eI
def qO(p:AV×List aC.V):Prop:=(p.1=.bE/\p.2=[])\/p.1=.bJ 0 3 (bR p.2)
def qH(ps:List (AV×List aC.V)):List (List AV):=ps.map fun p=>[p.1]
def AY(pv:AV)(ps:List (AV×List aC.V)):Prop:=(pv=.bE/\ps=[])\/pv=.bJ 0 1 (qH ps)
variable{p:AV×List aC.V}
theorem qO.free(h:qO p):p.1.free=true:=by
 rcases h with ⟨h,_⟩|h
 . rw[h];rfl
 rw[h];exact cT rfl _
variable{ps:List (AV×List aC.V)}
theorem MH(h:∀p∈ps,qO p):fN (qH ps)=true:=by
 induction ps with
 |nil=>simp only[qH,Hi,fN]
 |cons p ps z=>have O:=(h p Az).free;have Z:=z fun x C=>h x (As _ C);simp only[qH] at Z;simp only[qH,Cg,fN,cW,O,Z,Ee]
theorem AY.free{pv:AV}(h:AY pv ps)(m:∀p∈ps,qO p):pv.free=true:=by
 rcases h with ⟨h,_⟩|h
 . rw[h];rfl
 rw[h];simp only[AV.free,MH m];rfl
def vP(v:aC.V):Bool:=(decide (v.x>4096)||decide (v.x< -4096))||((decide (v.y>4096)||decide (v.y< -4096))||(decide (v.z>4096)||decide (v.z< -4096)))
noncomputable def gD (l:List aC.V):Int:=if mS l≠0 then mS l else if l.any vP then 1 else 0
def Zw(M C L r1:Int):Bool:=decide (M<1)||(decide (C<M)||(decide (C>1099511627776)||(decide (L<0)||(decide (r1<L)||decide (r1>4000)))))
noncomputable def CO (ps:List (List aC.V)):Bool:=(List.range ps.length).any fun i=>(List.range i).any fun k=> !lP (ps.getD i []) (ps.getD k [])
noncomputable def uP (ps:List (List aC.V)):Int:=match ps.find? fun l=> !decide (gD l=0) with
 |some l=>gD l
 |none=>if CO ps then 150 else 0
noncomputable def oE (name:List UInt8) (ps:List (List aC.V)) (M C L r1:Int):Int:=
 if rN name=false then 5 else if ps.length<1\/8<ps.length then 2 else if Zw M C L r1=true then 1 else uP ps
variable{ls:List (List aC.V)}{i:Nat}
theorem RO(F:i<ls.length)(h:∀j (Y:j<i),gD (ls[j]'(Bt Y F))=0)(B:gD ls[i]≠0):uP ls=gD ls[i]:=by
 have :ls.find? (fun l=> !decide (gD l=0))=some ls[i]:=by rw[List.find?_eq_some_iff_getElem];exact⟨by simp[B],i,F,rfl,fun j Y=>by simp[h j Y]⟩
 unfold uP;rw[this]
theorem wO(h:∀l∈ls,gD l=0):uP ls=if CO ls then 150 else 0:=by
 have :ls.find? (fun l=> !decide (gD l=0))=none:=by rw[Hr];exact fun l U=>by simp[h l U]
 unfold uP;rw[this]
theorem Vr{l:List aC.V}(h:gD l=0):mS l=0/\∀v∈l,vP v=false:=by
 unfold gD at h;split at h
 . rename_i O;exact absurd h O
 rename_i O;split at h
 . cases h
 rename_i Z
 exact⟨Decidable.not_not.1 O,fun v J=>by
  cases N:vP v with
  |false=>rfl
  |true=>exact absurd (Cj.2 ⟨v,J,N⟩) Z⟩
theorem JS{k:Nat}(F:i<ls.length)(E:k<i)(h:lP ls[i] (ls[k]'(Bt E F))=false):CO ls=true:=by unfold CO;rw[Cj];refine⟨i,Ax.2 F,?_⟩;rw[Cj];refine⟨k,Ax.2 E,?_⟩;have R:=Bt E F;simp only[List.getD,Af F,Af R,By,h,Ey]
theorem ON(h:∀i k (F:i<ls.length) (E:k<i),lP ls[i] (ls[k]'(Bt E F))=true):CO ls=false:=by unfold CO;rw[Eh];intro i F;rw[Ax] at F;simp only[Ew];rw[Eh];intro k E;rw[Ax] at E;have R:=Bt E F;simp only[List.getD,Af F,Af R,By,h i k F E];decide
theorem SV(h:qO p)(Q:p.2.length<2^30)(H:aA):Sg 101 [.agg [p.1]] H (.ret (.int .i64 (mS p.2))) H:=by
 rcases h with ⟨h1,Z⟩|h1
 . rw[h1,Z,KX];exact SX H
 rw[h1];exact VW rfl Q (AM _) (jO (AM _).Ra) H
def eT(name:List UInt8)(pv:AV)(M C L r1:Int):List AV:=[.str name,pv,.int .i64 M,.int .i64 C,.int .i64 L,.int .i64 r1]
theorem Mj{name:List UInt8}(tG:name.length<2^63){ps:List (AV×List aC.V)}(tI:∀p∈ps,qO p)(Q:∀p∈ps,p.2.length<2^30)(tH:ps.length<2^30)(M C L r1:Int)(H:aA):
 Sg 36 [.agg (eT name (.bJ 0 1 (qH ps)) M C L r1)] H (.ret (.int .i64 (oE name (ps.map (·.2)) M C L r1))) H:=by
 have uK:cW [AV.agg (eT name (.bJ 0 1 (qH ps)) M C L r1)]=true:=by simp only[sf,eT,MH tI]
 refine So bQg uK ?_ H;have d:(ps.map (·.2)).length=ps.length:=Ah _;unfold W36;dsimp only;have c:(qH ps).length=ps.length:=Ah _;have S:decide ((ps.length:Int)<1)=decide (ps.length<1):=by rw[Aw];omega
 have d2:decide ((ps.length:Int)>8)=decide (8<ps.length):=by rw[Aw];omega
 refine bP ?_;simp only[↓zP,zJ,seval,eT];refine bQ ?_;refine aM fun K hK=>?_;refine aJ ?_;refine aM fun D cY=>?_;refine Ty ?_;have af:=aKi name tG
 cases J:rN name with
 |false=>rw[J] at af;refine Ww ?_;apply cY;clear cY D;refine Tz ?_;refine Rx ?_;unfold oE;rw[if_pos J];rfl
 |true=>
 rw[J] at af;refine fC (af _) ?_;refine Ty ?_;apply cY;clear cY D;refine KO false zq (fun h=>by cases h) (fun _=>?_);refine aM fun D cY=>?_
 cases O:decide (ps.length<1) with
 |true=>rw[O] at S;refine Ww ?_;apply cY;clear cY D;refine Tz ?_;refine Rx ?_;unfold oE;rw[if_neg ZaV,if_pos (.inl (by rw[d];exact Dv O))];rfl
 |false=>
 rw[O] at S
 cases Z:decide (8<ps.length) with
 |true=>rw[Z] at d2;refine Wy ?_;apply cY;clear cY D;refine Tz ?_;refine Rx ?_;unfold oE;rw[if_neg ZaV,if_pos (.inr (by rw[d];exact Dv Z))];rfl
 |false=>
 rw[Z] at d2
 have LO:Zw M C L r1=true->oE name (ps.map (·.2)) M C L r1=1:=fun X=>by unfold oE;rw[if_neg ZaV,if_neg Zb4,if_pos X]
 have A:Zw M C L r1=false->oE name (ps.map (·.2)) M C L r1=uP (ps.map (·.2)):=fun X=>by unfold oE;rw[if_neg ZaV,if_neg Zb4,if_neg (by rw[X];decide)]
 unfold Zw at LO A
 have key:∀u:dD,oE name (ps.map (·.2)) M C L r1=(uP (ps.map (·.2)))->u 1=.ref 0 0->K u [] ((⟨0,.nil⟩:aA).alloc (.cells [.str name,.bJ 0 1 (qH ps),.int .i64 M,.int .i64 C,.int .i64 L,.int .i64 r1] false)):=by
  intro u CX f1;rw[CX] at hK;apply hK;clear hK cY D K LO A
  have hF:∀i (F:i<ps.length),(∀j (Y:j<i),gD (ps[j]'(Bt Y F)).2=0)->gD ps[i].2≠0->uP (ps.map (·.2))=gD ps[i].2:=fun i F O Z=>by have :=RO (ls:=ps.map (·.2)) (i:=i) (by rw[d];exact F) (fun j Y=>by rw[Cr];exact O j Y) (by rw[Cr];exact Z);rw[this,Cr]
  refine Wz ?_;refine bS [] (fun i vs H'=>(∀j (Y:j<i) (U:j<ps.length),gD ps[j].2=0)/\H'.get 0=some (.cells [.str name,.bJ 0 1 (qH ps),.int .i64 M,.int .i64 C,.int .i64 L,.int .i64 r1] false)/\1<=H'.next) ps.length A0 A1 ?_ ?_ ?_ ?_ ?_
  . exact zq
  . exact zq
  . exact⟨fun j Y=>absurd Y (Al _),by simp only[zI,seval],by simp only[zI,seval]⟩
  . rintro i f H1 F E e1 ⟨r,g0,hn⟩;have t:(qH ps).getD i []=[ps[i].1]:=eO F;have m:=tI _ (Ac F);have U:=Q _ (Ac F);have ad:=hF i F (fun j Y=>r j Y (Bt Y F))
    have g:gD ps[i].2=0->∀j (Y:j<i+1) (U:j<ps.length),gD ps[j].2=0:=fun h j Y U=>by
     exact ZbO
    generalize ps[i]=p at *;obtain⟨pv,l⟩:=p;simp only at t m U ad g;have R:=SV m U;simp only at R;have Zc:¬(0=H1.next):=A0;refine aJ ?_;refine bP ?_;have :=E 70 rfl;refine Wz ?_;refine bQ ?_;refine aM fun D cY=>?_;refine Wx ?_;by_cases B:mS l=0
    . have X:(mS l != 0)=false:=(by simp[B]);obtain⟨_,_,_,_,_,Mg,b2⟩:=nB B
      obtain⟨rfl⟩:pv=.bJ 0 3 (bR l):=by
       rcases m with ⟨_,h⟩|h
       . exact absurd h Mg
       exact h
      have aN:l.any vP=false->gD l=0:=fun h=>by unfold gD;rw[if_neg (by simp[B]),h];rfl
      have VO:l.any vP=true->gD l=1:=fun h=>by unfold gD;rw[if_neg (by simp[B]),h];rfl
      refine Wx ?_;apply cY;clear cY D;simp only[↓zP,zJ,seval,aU];generalize G:(H1.alloc _).set H1.next _=o;have b:o.get 0=some (.cells [.str name,.bJ 0 1 (qH ps),.int .i64 M,.int .i64 C,.int .i64 L,.int .i64 r1] false):=Zcc;have yn:1<=o.next:=Zan;clear G;refine bS [] (fun j vs H'=>(∀k (E:k<j) (U:k<l.length),vP l[k]=false)/\H'.get 0=some (.cells [.str name,.bJ 0 1 (qH ps),.int .i64 M,.int .i64 C,.int .i64 L,.int .i64 r1] false)/\1<=H'.next) l.length A0 A1 ?_ ?_ ?_ ?_ ?_
      . exact zq
      . exact zq
      . exact⟨fun k E=>absurd E (Al _),b,yn⟩
      . rintro j s w Y N P ⟨a6,a7,Lg⟩;have aF:=cH Y
        have ae:vP l[j]=false->∀k (E:k<j+1) (U:k<l.length),vP l[k]=false:=fun h k E U=>by
         by_cases e:k=j
         . subst e;exact h
         exact a6 k A0 U
        have CH:vP l[j]=true->l.any vP=true:=fun h=>Cj.2 ⟨l[j],Ac Y,h⟩;generalize l[j]=v at *;have ab:¬(0=w.next):=A0;have v0:(cG v).getD 0 aB=.int .i64 v.x:=rfl;have v1:(cG v).getD 1 aB=.int .i64 v.y:=rfl;have v2:(cG v).getD 2 aB=.int .i64 v.z:=rfl;have w0:=QE v.x 4096 A1;have w1:=QE v.y 4096 A1;have w2:=QE v.z 4096 A1;rw[show(-4096:Int)= -(4096) from rfl] at *;unfold vP at ae CH;refine aJ ?_;refine bP ?_;simp only[↓zP,zJ,seval,P,N 82 rfl,aD,aU,Y,aF,oL (aT v)];refine bQ ?_;refine aM fun D cY=>?_;have := @aT;refine Wx ?_
        cases c0:(decide (v.x>4096)||decide (v.x< -4096)) with
        |true=>rw[c0] at CH;refine Tz ?_;apply cY;clear cY D;refine Tz ?_;refine Rx ?_;rw[ad Zcs,VO (CH rfl)];rfl
        |false=>
        rw[c0] at CH ae;refine Wz ?_
        cases c1:(decide (v.y>4096)||decide (v.y< -4096)) with
        |true=>rw[c1] at CH;refine Tz ?_;apply cY;clear cY D;refine Tz ?_;refine Rx ?_;rw[ad Zcs,VO (CH rfl)];rfl
        |false=>
        rw[c1] at CH ae;simp only[↓zP,zJ,seval,AR,v2,aT];refine fC (w2 _) ?_
        cases c2:(decide (v.z>4096)||decide (v.z< -4096)) with
        |true=>rw[c2] at CH;refine Tz ?_;apply cY;clear cY D;refine Tz ?_;refine Rx ?_;rw[ad Zcs,VO (CH rfl)];rfl
        |false=>
        rw[c2] at ae;refine Tz ?_;apply cY;clear cY D;refine Ty ?_;exact⟨ae rfl,by rw[if_neg ab,if_neg ab];exact a7,trivial⟩
      rintro s w N ⟨a6,a7,Lg⟩
      have :l.any vP=false:=by rw[Eh];intro v J;obtain⟨k,E,rfl⟩:=Cz J;rw[a6 k E E];decide
      refine Tx ?_;exact⟨g (aN this),a7,Lg⟩
    have X:(mS l != 0)=true:=(by simp[B]);have aq:gD l=mS l:=(by unfold gD;rw[if_pos B]);simp only[↓zP,zG,seval,X];refine Rx ?_;rw[ad (by rw[aq];exact B),aq];rfl
  rintro f H1 E ⟨r,g0,hn⟩;have W:∀j (U:j<ps.length),gD ps[j].2=0:=fun j U=>r j U U
  have hR:=wO (ls:=ps.map (·.2)) (fun l U=>by
   obtain⟨p,m,rfl⟩:=Bb.1 U;obtain⟨j,Y,rfl⟩:=Cz m
   exact W j Y)
  have QV:∀j (U:j<ps.length),mS ps[j].2=0/\ps[j].1=.bJ 0 3 (bR ps[j].2):=fun j U=>by
   have h0:=(Vr (W j U)).1;refine⟨h0,?_⟩
   rcases tI _ (Ac U) with ⟨_,h⟩|h
   . rw[h,KX] at h0;cases h0
   exact h
  have az:f 1=.ref 0 0:=by rw[E 1 rfl];simp only[zB,seval];exact f1
  simp only[↓zP,zJ,seval,az,g0,c];refine bS [] (fun i vs H'=>(∀a k (I:a<i) (U:a<ps.length) (E:k<a),lP ps[a].2 (ps[k]'(Bt E U)).2=true)/\H'.get 0=some (.cells [.str name,.bJ 0 1 (qH ps),.int .i64 M,.int .i64 C,.int .i64 L,.int .i64 r1] false)/\1<=H'.next) ps.length A0 A1 ?_ ?_ ?_ ?_ ?_
  . exact zq
  . exact zq
  . exact⟨fun a k I=>absurd I (Al _),g0,hn⟩
  . rintro i s w F N P ⟨a6,a7,Lg⟩;have t:(qH ps).getD i []=[ps[i].1]:=eO F;obtain⟨uV,rT⟩:=QV i F
    have g:(∀k (E:k<i),lP ps[i].2 (ps[k]'(Bt E F)).2=true)->∀a k (I:a<i+1) (U:a<ps.length) (E:k<a),lP ps[a].2 (ps[k]'(Bt E U)).2=true:=fun h a k I U E=>by
     by_cases e:a=i
     . subst e;exact h k E
     exact a6 a k A0 U E
    have aE:∀k (E:k<i),lP ps[i].2 (ps[k]'(Bt E F)).2=false->uP (ps.map (·.2))=150:=fun k E h=>by have :=JS (ls:=ps.map (·.2)) (i:=i) (k:=k) (by rw[d];exact F) E (by rw[Cr,Cr];exact h);rw[hR,this];rfl
    have aK:s 1=.ref 0 0:=(by rw[N 1 rfl];simp only[zB,seval];exact az);have ab:¬(0=w.next):=A0;have uL:(qH ps).take i=qH (ps.take i):=by simp[qH]
    have ot:uG 1 (.bJ 0 1 (qH ps)) none (some i) none=some (.bJ 0 1 (qH (ps.take i))):=by simp only[uG,Eb,By];rw[if_pos ⟨trivial,Bk _,by rw[c];omega⟩,if_neg (by rw[c];omega),Fm,Hy,uL]
    have an:(qH (ps.take i)).length=i:=(by simp[qH];omega);rw[rT] at t;refine aJ ?_;refine bP ?_;simp only[↓zP,zJ,seval,P,N 104 rfl,aD,c,F,t];refine bQ ?_;simp only[↓zP,zJ,seval,aK,ab,a7,eM,aD,ot,Co,Bi,an];generalize G:(w.alloc _).set w.next _=o;have b:o.get 0=some (.cells [.str name,.bJ 0 1 (qH ps),.int .i64 M,.int .i64 C,.int .i64 L,.int .i64 r1] false):=(by subst G;rw[aA.aH,if_neg ab,aA.aI,if_neg ab];exact a7);have yn:w.next<o.next:=(by subst G;simp);have y9:=Kz G;clear G;refine bS [] (fun k vs H'=>(∀a (I:a<k) (U:a<i),lP ps[i].2 (ps[a]'(Bt U F)).2=true)/\H'.get 0=some (.cells [.str name,.bJ 0 1 (qH ps),.int .i64 M,.int .i64 C,.int .i64 L,.int .i64 r1] false)/\w.next<H'.next/\H'.get w.next=some (.cells [.bJ 0 3 (bR ps[i].2)] false)) i A0 A1 ?_ ?_ ?_ ?_ ?_
    . exact zq
    . exact zq
    . exact⟨fun a I=>absurd I (Al _),b,yn,y9⟩
    . rintro k f3 H3 dm gA e3 ⟨ag,aj,HN,ay⟩;have CJ:=Bt dm F;obtain⟨Ol,T⟩:=QV k CJ
      have Xu:(qH (ps.take i)).getD k []=[ps[k].1]:=by have O:k<(ps.take i).length:=Zaf;have :(qH (ps.take i)).getD k []=[(ps.take i)[k].1]:=eO O;rw[this,List.getElem_take]
      rw[T] at Xu;have hd:=Ur (ta:=0) (tb:=0) rfl rfl uV Ol
      have b0:lP ps[i].2 ps[k].2=true->∀a (I:a<k+1) (U:a<i),lP ps[i].2 (ps[a]'(Bt U F)).2=true:=fun h a I U=>by
       by_cases e:a=k
       . subst e;exact h
       exact ag a A0 U
      have aO:=aE k dm;generalize ps[k]=q at *;generalize b1:ps[i]=p at *;have al:¬(0=H3.next):=A0;have ak:¬(w.next=H3.next):=A0;refine aJ ?_;refine bP ?_;simp only[↓zP,zJ,seval,e3,gA 114 rfl,aD,an,dm,Xu];refine bQ ?_;refine aM fun D cY=>?_;have :=gA 9 rfl;refine Wx ?_
      cases ar:lP p.2 q.2 with
      |true=>refine Ty ?_;apply cY;clear cY D;refine Ty ?_;exact⟨b0 ar,by rw[if_neg al,if_neg al];exact aj,by omega,by rw[if_neg ak,if_neg ak];exact ay⟩
      |false=>refine Ty ?_;apply cY;clear cY D;refine Tz ?_;refine Rx ?_;rw[aO ar];rfl
    rintro f3 H3 gA ⟨ag,aj,HN,ay⟩;refine Tx ?_;exact⟨g fun k E=>ag k E E,aj,by omega⟩
  rintro s w N ⟨a6,a7,Lg⟩
  have :=ON (ls:=ps.map (·.2)) (fun a k I E=>by
   rw[Cr,Cr]
   exact a6 a k (by rwa [d] at I) (by rwa [d] at I) E)
  refine Tx ?_;refine Rx ?_;rw[hR,this];rfl
 clear hK;simp only[↓zP,zJ,seval,c,S,d2];apply cY;clear cY D;refine KO false zq (fun h=>by cases h) (fun _=>?_);refine bW fun f hf=>?_;have f1:=Kf (i:=1) hf;clear hf
 cases g1:decide (M<1) with
 |true=>rw[g1] at LO;refine Wz ?_;refine Rx ?_;rw[LO A2];rfl
 |false=>
 cases g2:decide (C<M) with
 |true=>rw[g2] at LO;refine Wz ?_;refine Rx ?_;rw[LO A2];rfl
 |false=>
 cases g3:decide (C>1099511627776) with
 |true=>rw[g3] at LO;refine Wz ?_;refine Rx ?_;rw[LO A2];rfl
 |false=>
 cases g4:decide (L<0) with
 |true=>rw[g4] at LO;refine Wz ?_;refine Rx ?_;rw[LO A2];rfl
 |false=>
 cases g5:decide (r1<L) with
 |true=>rw[g5] at LO;refine Wz ?_;refine Rx ?_;rw[LO A2];rfl
 |false=>
 cases g6:decide (r1>4000) with
 |true=>rw[g6] at LO;refine Wz ?_;refine Rx ?_;rw[LO A2];rfl
 |false=>rw[g1,g2,g3,g4,g5,g6] at A;refine Wz ?_;exact key _ (A rfl) (by simp only[zB,seval];exact f1)
end Go.Proofs.YtogfcjbgeebfkaaGreatDoor
namespace Go.Proofs.YtogfcjbgeebfkaaGreatDoor
open Go Go.Av Go.jG Go.aC
attribute [local congr] aX aQ aR aL bA aW aS aG bB
attribute [local irreducible] FC bT eI
noncomputable def vo (l:List aC.V):Option Int:=Rm l (dY l) (fU l)
noncomputable def ce (l:List aC.V):Nat->Option Rat:=XC l (dY l) (fU l)
variable{l:List aC.V}
theorem aKm(h:mS l=0)(H:aA):Sg 58 [.agg [.bJ 0 3 (bR l)]] H (.ret (.agg (cO (vo l)))) H:=by obtain⟨s,_,n,_,U,_,f⟩:=nB h;exact Pf (tag:=0) rfl f (Ae _) U (jO s) n (BA s) H
theorem aYo(h:mS l=0)(H:aA):Sg 65 [.agg [.bJ 0 3 (bR l)]] H (.ret (.agg (c3 fun i=>eB (ce l i)))) H:=by obtain⟨s,_,n,_,U,_,f⟩:=nB h;exact We (tag:=0) rfl f (Ae _) U (jO s) n (BA s) H
def Pok(ls:List (List aC.V)):Prop:=ls.length<=8/\∀l∈ls,mS l=0
def pE(ls:List (List aC.V)):List (List AV):=ls.map fun l=>[.bJ 0 3 (bR l)]
theorem yM(ls:List (List aC.V)):(pE ls).length=ls.length:=by simp[pE]
variable{ls:List (List aC.V)}
theorem RF{k:Nat}(h:k<ls.length):(pE ls).getD k []=[.bJ 0 3 (bR ls[k])]:=by simp[pE,List.getD,h]
theorem qy:∀ls:List (List aC.V),fN (pE ls)=true
 |[]=>rfl
 |l::ls=>by have :=qy ls;simp only[pE,Cg,sf,cT (tag:=0) rfl] at *;rw[this]
def bd(name:List UInt8)(ls:List (List aC.V))(M C L r1:Int):List AV:=eT name (.bJ 0 1 (pE ls)) M C L r1
theorem sM(name:List UInt8)(ls:List (List aC.V))(M C L r1:Int):cW (bd name ls M C L r1)=true:=by simp only[bd,eT,sf,qy]
noncomputable def qJ (ls:List (List aC.V)):Option Int:=pW vo ls
theorem aBu(ls:List (List aC.V)){k:Nat}(h:k<ls.length):qJ (ls.take (k+1))=nL (qJ (ls.take k)) (vo ls[k]):=by unfold qJ;rw[Ao,Af h];exact AP _ _ _
variable{name:List UInt8}
theorem Uj(m:Pok ls)(M C L r1:Int)(H:aA):Sg 13 [.agg (bd name ls M C L r1)] H (.ret (.agg (cO (qJ ls)))) H:=by
 refine So bGu (by simp only[sf,sM]) ?_ H;unfold W13;dsimp only;have h:=qN (z:=0) A1 A1;have j:=cC 0;have lo:∀x,(cO x).length=18:=fun x=>jU x;have q:(bd name ls M C L r1).length=6:=rfl;have R:(bd name ls M C L r1).getD 1 aB=.bJ 0 1 (pE ls):=rfl;have A:=m.1;generalize bd name ls M C L r1=k at *;refine bP ?_;refine Tz ?_;refine fW ?_;have :=oL Mb;refine Wz ?_;refine bQ ?_;generalize G:aA.set _ 2 _=I;have p:=Kv (i:=0) G;have a1:=Kv (i:=1) G;have Q:I.get 2=some (.cells (cO (qJ (ls.take 0))) false):=by subst G;simp only[zI,seval];rfl
 have O:3<=I.next:=by subst G;exact Ae _
 clear G;refine bW fun f N=>?_;have b:=Kf (i:=1) N;have s:=Kf (i:=2) N;have c:=Kf (i:=3) N;clear N;refine aM fun K hK=>?_;refine bP ?_;have := @yM;refine Wy ?_;refine bQ ?_;refine bS [] (fun i _ H'=>H'.get 1=some (.cells (.bool false::.bool false::wC zs) false)/\H'.get 2=some (.cells (cO (qJ (ls.take i))) false)/\3<=H'.next) ls.length A0 A1 ?_ ?_ ?_ ?_ ?_
 . exact zq
 . exact zq
 . exact⟨a1,Q,O⟩
 . rintro i u H1 F E T ⟨g,d,l⟩;have k3:u 3=.ref 2 0:=by rw[E 3 rfl];simp only[zB,seval];exact c
   have k8:u 8=.bJ 0 1 (pE ls):=E 8 rfl;have t:=RF F;have J:=aKm (m.2 _ (Ac F));have a:=tU (dN.pW vo (ls.take i)) (show dN (cO (vo ls[i])) (vo ls[i]) from dN.pW _ _);rw[aBu ls F];rw[show nL (pW vo (ls.take i)) (vo ls[i])=nL (qJ (ls.take i)) (vo ls[i]) from rfl] at a;rw[show pW vo (ls.take i)=qJ (ls.take i) from rfl] at a;generalize qJ (ls.take i)=x at *;generalize vo ls[i]=y at *;have D:∀v:AV,[v].length=1:=fun _=>rfl;refine aJ ?_;refine bP ?_;simp only[↓zP,zJ,seval,T,k8,aD,yM,F,t];refine bQ ?_;generalize G:(H1.alloc _).set H1.next _=o;have B:=Ku G g;have n:=Ku G d;have e:=Kz G;have un:3<=o.next:=Zan;clear G;generalize H1.next=r at *;refine Dz ?_;simp only[↓zP,zJ,seval,zD,k3,n,e,lo,oL (lo x)];refine gH (J _) ?_;simp only[seval];refine gH (a _) ?_;simp only[↓zP,zJ,seval,zD,k3,B,n,lo,oL (lo x)];exact un
 rintro u H1 E ⟨g,d,l⟩;rw[Aq] at d;have k2:u 2=.ref 1 0:=by rw[E 2 rfl];simp only[zB,seval];exact s
 have k3:u 3=.ref 2 0:=by rw[E 3 rfl];simp only[zB,seval];exact c
 refine Tx ?_;apply hK;clear hK K;generalize qJ ls=x at *;refine Wz ?_;refine⟨rfl,_,by simp only[↓zP,zR,seval,k2,oL (lo x)];rfl,?_⟩;rfl
def ZB{α:Type}(x:α->Option Rat)(T:List α):Option Rat:=T.foldl (fun s t=>kY s (x t)) (some ((0:Int):Rat))
variable{α:Type}
theorem aBm(x:α->Option Rat)(T:List α)(t:α):ZB x (T++[t])=kY (ZB x T) (x t):=by simp[ZB]
theorem gM.ZB{x:α->Option Rat}(C:∀t,gM (eB (x t)) (x t)):∀(T:List α) (s:Option Rat),gM (eB s) s->gM (eB (T.foldl (fun s t=>kY s (x t)) s)) (T.foldl (fun s t=>kY s (x t)) s)
 |[],s,h=>h
 |t::T,s,h=>gM.ZB C T _ (.add h (C t))
noncomputable def shQ (i:Nat) (l:List aC.V):Option Rat:=lB (rQ (vo l) (some 1)) (ce l i)
noncomputable def Sj (ls:List (List aC.V)) (i:Nat):Option Rat:=ZB (shQ i) ls
noncomputable def FI (ls:List (List aC.V)) (i:Nat):Option Rat:=Us (Sj ls i) (rQ (qJ ls) (some 1))
theorem gM.sm(ls:List (List aC.V))(i:Nat):gM (eB (Sj ls i)) (Sj ls i):=gM.ZB (fun t=>.mul) ls _ (.int A1 A1)
theorem aJp(ls:List (List aC.V))(i:Nat){k:Nat}(h:k<ls.length):Sj (ls.take (k+1)) i=kY (Sj (ls.take k) i) (shQ i ls[k]):=by unfold Sj;rw[Ao,Af h];exact aBm _ _ _
theorem lj(m:Pok ls)(M C L r1:Int)(H:aA):Sg 15 [.agg (bd name ls M C L r1)] H (.ret (.agg (c3 fun i=>eB (FI ls i)))) H:=by
 refine Sp bHi (by simp only[sf,sM]) Zaw ?_ H;unfold W15;dsimp only;simp only[wT];simp only[lJ]
 have o0:∀H,Sg 37 [.agg [.int .i64 0,.int .i64 0,.int .i64 0]] H (.ret (.agg (c3 fun i=>eB (Sj (ls.take 0) i)))) H:=fun H=>by
  have :=rq (v:=V0) (fun i=>by unfold aC.V.at;split<;>exact⟨by decide,by decide⟩) H
  rwa [show(c3 fun i=>cQ (V0.at i:Rat))=c3 fun i=>eB (Sj (ls.take 0) i) from iJ fun i F=>by match i,F with|0,_=>rfl|1,_=>rfl|2,_=>rfl] at this
 have bv:=Uj (name:=name) m M C L r1;have W:∀x,(eB x).length=36:=fun x=>fA x;have b6:(bd name ls M C L r1).length=6:=rfl;have b1:(bd name ls M C L r1).getD 1 aB=.bJ 0 1 (pE ls):=rfl;have A:=m.1;generalize bd name ls M C L r1=bc at *;refine bP ?_;refine Tz ?_;refine fW ?_;refine Wz ?_;have U:∀x:Nat->Option Rat,(c3 fun i=>eB (x i)).length=108:=fun x=>jC fun i _=>W _;simp only[↓zP,zJ,seval,U,oL rO];refine bQ ?_;generalize G:aA.set _ 2 _=I;have a0:=Kv (i:=0) G;have a1:=Kv (i:=1) G;have Q:=Kv (i:=2) G;have O:3<=I.next:=by subst G;exact Ae _
 clear G;refine bW fun f N=>?_;have b:=Kf (i:=1) N;have s:=Kf (i:=2) N;have c:=Kf (i:=3) N;clear N;refine aM fun K hK=>?_;refine bP ?_;have := @yM;refine Wy ?_;refine bQ ?_;refine bS [] (fun i _ H'=>H'.get 0=some (.cells bc false)/\H'.get 1=some (.cells GZ false)/\H'.get 2=some (.cells (c3 fun j=>eB (Sj (ls.take i) j)) false)/\3<=H'.next) ls.length A0 A1 ?_ ?_ ?_ ?_ ?_
 . exact zq
 . exact zq
 . exact⟨a0,a1,Q,O⟩
 . rintro i u H1 F E e1 ⟨g0,g1,d,gn⟩;have k3:u 3=.ref 2 0:=by rw[E 3 rfl];simp only[zB,seval];exact c
   have a:u 11=.bJ 0 1 (pE ls):=E 11 rfl;have t:=RF F;have R:=m.2 _ (Ac F);have J:=aKm R;have hw:=GG (show dN (cO (vo ls[i])) (vo ls[i]) from dN.pW _ _);have a6:=aYo R;have iv:gM (eB (rQ (vo ls[i]) (some 1))) (rQ (vo ls[i]) (some 1)):=.mk (show dN (cO (vo ls[i])) (vo ls[i]) from dN.pW _ _) (.enc (z:=1) A1);have ic:ZR (c3 fun j=>eB (ce ls[i] j)) (ce ls[i]):=⟨_,rfl,fun j _=>.mk (show dN (cO (uC ls[i] j (oY (dY ls[i]) (fU ls[i])))) _ from dN.pW _ _) .mul⟩;have q:∀H,Sg 63 [.agg (eB (rQ (vo ls[i]) (some 1))),.agg (c3 fun j=>eB (ce ls[i] j))] H (.ret (.agg (c3 fun j=>eB (shQ j ls[i])))) H:=aAj iv ic;have X:=aIl (v:=c3 fun j=>eB (Sj (ls.take i) j)) (w:=c3 fun j=>eB (shQ j ls[i])) (x:=Sj (ls.take i)) (y:=fun j=>shQ j ls[i]) ⟨_,rfl,fun j _=>.sm _ j⟩ ⟨_,rfl,fun j _=>.mul⟩
   have hs:(fun j=>eB (kY (Sj (ls.take i) j) (shQ j ls[i])))=fun j=>eB (Sj (ls.take (i+1)) j):=by funext j;rw[aJp ls j F]
   rw[hs] at X;refine aJ ?_;refine bP ?_;simp only[↓zP,zJ,seval,e1,a,aD,yM,F,t];refine bQ ?_;generalize G:(H1.alloc _).set H1.next _=o;have u0:=Ku G g0;have B:=Ku G g1;have n:=Ku G d;have u5:=Kz G;have un:3<=o.next:=Zan;clear G;generalize H1.next=r at *;have lx:=oL (U (Sj (ls.take i)));have ly:=oL (U (Sj (ls.take (i+1))));refine Dz ?_;simp only[↓zP,zJ,seval,zD,k3,n,u5,U,lx];refine gH (J _) ?_;simp only[seval];refine gH (hw _) ?_;simp only[↓zP,zJ,seval,zD,u5];refine gH (a6 _) ?_;simp only[seval];refine gH (q _) ?_;simp only[seval];refine gH (X _) ?_;simp only[↓zP,zJ,seval,zD,k3,u0,B,n,U,lx];exact un
 rintro u H1 E ⟨g0,g1,d,gn⟩;rw[Aq] at d;have k1:u 1=.ref 0 0:=by rw[E 1 rfl];simp only[zB,seval];exact b
 have k2:u 2=.ref 1 0:=by rw[E 2 rfl];simp only[zB,seval];exact s
 have k3:u 3=.ref 2 0:=by rw[E 3 rfl];simp only[zB,seval];exact c
 refine Tx ?_;apply hK;clear hK K;have hw:=GG (show dN (cO (qJ ls)) (qJ ls) from dN.pW _ _);have iq:gM (eB (rQ (qJ ls) (some 1))) (rQ (qJ ls) (some 1)):=.mk (show dN (cO (qJ ls)) (qJ ls) from dN.pW _ _) (.enc (z:=1) A1);have WU:∀j H,Sg 66 [.agg (eB (Sj ls j)),.agg (eB (rQ (qJ ls) (some 1)))] H (.ret (.agg (eB (FI ls j)))) H:=fun j=>rp (.sm ls j) iq;have lz:Mc.length=36:=rfl;have lw:=oL (W (rQ (qJ ls) (some 1)));refine bP ?_;have :=oL b6;have :=oL lz;refine Wz ?_;refine bQ ?_;generalize rQ (qJ ls) (some 1)=al at *;generalize G:aA.set _ H1.next _=H2;have B:=Ku G g1;have n:=Ku G d;have u6:=Kz G;clear G;generalize H1.next=T at *;refine bW fun g t=>?_;have q2:=Ks t k2;have q3:=Ks t k3;have q6:=Kf (i:=6) t;clear t E;refine aM fun K hK=>?_;refine bP ?_;refine Tz ?_;refine bQ ?_;refine cM [] (fun k _ H'=>H'.get 1=some (.cells GZ false)/\H'.get 2=some (.cells (c3 fun j=>if j<k then eB (FI ls j) else eB (Sj ls j)) false)/\H'.get T=some (.cells (eB al) false)) 3 A1 rfl A1 ?_ ?_ ?_ ?_
 . exact zq
 . simp only[Al,Cv];exact⟨B,n,u6⟩
 . rintro k u HD gA E e1 ⟨w1,w2,p⟩;have p3:u 3=.ref 2 0:=by rw[E 3 rfl];simp only[zB,seval];exact q3
   have p6:u 6=.ref T 0:=(by rw[E 6 rfl];simp only[zB,seval];exact q6);have P:∀j,j<3->(if j<k then eB (FI ls j) else eB (Sj ls j)).length=36:=fun j Y=>by split<;>exact W _
   have D:=oS P gA;rw[if_neg (Ec k)] at D;have mk:=WU k;refine aJ ?_;refine bP ?_;refine Wy ?_;refine bQ ?_;refine Dz ?_;have :=jC P;have :=oL (W al);have :k*36+36<=108:=A0;refine Wy ?_;rw[RL P gA (W _)];refine⟨Am (fun l=>eG.cells l false) (iJ fun j _=>?_),?_⟩
   . by_cases h:j=k
     . exact ZaE
     exact Zal
   rw[if_neg A0]
 rintro u HD E ⟨w1,w2,p⟩;have S:u 2=.ref 1 0:=by rw[E 2 rfl];simp only[zB,seval];exact q2
 have p3:u 3=.ref 2 0:=by rw[E 3 rfl];simp only[zB,seval];exact q3
 have e:(c3 fun j=>if j<3 then eB (FI ls j) else eB (Sj ls j))=c3 fun i=>eB (FI ls i):=iJ fun j Y=>if_pos Y;rw[e] at w2;refine Tx ?_;apply hK;clear hK K;have :=oL (U (FI ls));have :=oL rO;refine Wz ?_;refine⟨rfl,_,by simp only[↓zP,zR,seval,S,oL (U (FI ls))];rfl,?_⟩;rfl
theorem TA{a b:Int}(X:b≠0):(Rat.divInt a b).num.natAbs<=a.natAbs/\(Rat.divInt a b).den<=b.natAbs:=by obtain⟨o,O,Z⟩:=Qr (n:=a) X;refine⟨by rw[<-O];exact(tC o).1,?_⟩;have :=(tC (x:=b) o).1;omega
def Bq(q:Rat)(a b:Nat):Prop:=q.num.natAbs<=2^a/\q.den<=2^b
theorem bCr(n:Nat){a:Nat}(h:a<32*n):2^a<W^n:=by rw[show W=2^32 from rfl,<-Nat.pow_mul];exact Nat.pow_lt_pow_right A1 h
variable{a:Nat}
theorem aIf(h:a<=511):2^a<W^16:=bCr 16 A0
variable{b:Nat}{q:Rat}
theorem Bq.fit(h:Bq q a b)(I:a<=511)(X:b<=511):CQ q:=
 ⟨Bn h.1 (aIf I),Bn h.2 (aIf X)⟩
variable{c d:Nat}
theorem Bq.mono(h:Bq q a b)(I:a<=c)(X:b<=d):Bq q c d:=
 ⟨Ay h.1 (Bu A1 I),Ay h.2 (Bu A1 X)⟩
variable{n:Int}
theorem Bq.divInt{d:Int}(hd:d≠0)(O:n.natAbs<=2^a)(Z:d.natAbs<=2^b):Bq (Rat.divInt n d) a b:=
 ⟨Ay (TA hd).1 O,Ay (TA hd).2 Z⟩
theorem Bq.int(h:n.natAbs<=2^a):Bq (n:Rat) a 0:=⟨h,Ae _⟩
theorem qT(x:Rat):((x.den:Nat):Int)≠0:=by have :=x.den_nz;omega
variable{B:Nat}
theorem nG{x y:Int}{A:Nat}(h:x.natAbs<=A)(k:y.natAbs<=B):(x*y).natAbs<=A*B:=by rw[El];exact Be h k
variable{x y:Rat}
theorem Bq.mul(C:Bq x a b)(Q:Bq y c d):Bq (x*y) (a+c) (b+d):=by
 have e:x*y=Rat.divInt (x.num*y.num) (x.den*y.den):=by
  conv=>lhs;rw[<-Rat.num_divInt_den x,<-Rat.num_divInt_den y]
  rw[Rat.divInt_mul_divInt]
 rw[e,];refine .divInt (Int.mul_ne_zero (qT x) (qT y)) ?_ ?_
 . rw[Ej];exact nG C.1 Q.1
 rw[Ej];exact nG (by simpa using C.2) ZbL
theorem Bq.add{e:Nat}(C:Bq x a b)(Q:Bq y c d)(O:a+d<e)(Z:c+b<e):Bq (x+y) e (b+d):=by
 have eq:x+y=Rat.divInt (x.num*y.den+y.num*x.den) (x.den*y.den):=by
  conv=>lhs;rw[<-Rat.num_divInt_den x,<-Rat.num_divInt_den y]
  rw[Rat.divInt_add_divInt _ _ (qT x) (qT y)]
 rw[eq];refine .divInt (Int.mul_ne_zero (qT x) (qT y)) ?_ ?_
 . have P:(x.num*y.den).natAbs<=2^a*2^d:=nG C.1 ZbL;have S:(y.num*x.den).natAbs<=2^c*2^b:=nG Q.1 (by simpa using C.2);rw[<-Ej] at P S;obtain⟨k,rfl⟩:∃k,e=k+1:=⟨e -1,by omega⟩;have q1:2^(a+d)<=2^k:=Bu A1 A0;have q2:2^(c+b)<=2^k:=Bu A1 A0;omega
 rw[Ej];exact nG (by simpa using C.2) ZbL
theorem Bq.neg(h:Bq x a b):Bq (-x) a b:=⟨by rw[Rat.neg_num,Jg];exact h.1,by exact h.2⟩
theorem norm_le{z:Int}(h:z.natAbs<=2^a)(I:a<=511):norm z=some z:=by unfold norm;rw[if_pos (Bn h (aIf I))]
theorem pB(C:Bq x a b)(Q:Bq y c d)(O:a+c<=511)(Z:b+d<=511):lB (some x) (some y)=some (x*y):=by simp only[lB];rw[if_pos ((C.mul Q).fit O Z)]
theorem DY(a b:Nat):((a:Int).fdiv (Int.gcd a b)).natAbs<=a:=by have :(Int.gcd a b:Int)=((Nat.gcd a b:Nat):Int):=rfl;rw[this,Int.fdiv_eq_ediv_of_nonneg _ A0,<-Int.natCast_ediv,Cp];exact Fs _ _
theorem sX(C:Bq x a b)(Q:Bq y c d)(O:a+d<=510)(Z:c+b<=510)(W:b+d<=511):kY (some x) (some y)=some (x+y):=by
 have P:(x.num*((y.den:Int).fdiv (Int.gcd x.den y.den))).natAbs<=2^(a+d):=by rw[Ej,Int.gcd_comm];exact nG C.1 (Ay (DY _ _) Q.2)
 have S:(y.num*((x.den:Int).fdiv (Int.gcd x.den y.den))).natAbs<=2^(c+b):=by rw[Ej];exact nG Q.1 (Ay (DY _ _) C.2)
 have u:(((x.den:Int).fdiv (Int.gcd x.den y.den))*(y.den:Int)).natAbs<=2^(b+d):=by rw[Ej];exact nG (Ay (DY _ _) C.2) ZbL
 obtain⟨e,B⟩:∃e,e=510:=⟨_,rfl⟩
 have U:(x.num*((y.den:Int).fdiv (Int.gcd x.den y.den))+y.num*((x.den:Int).fdiv (Int.gcd x.den y.den))).natAbs<=2^(e+1):=by have q1:2^(a+d)<=2^e:=Bu A1 A0;have q2:2^(c+b)<=2^e:=Bu A1 A0;omega
 have hd:((x.den:Int).fdiv (Int.gcd x.den y.den))*(y.den:Int)≠0:=by refine Int.mul_ne_zero (fun o=>?_) (qT y);obtain⟨k,E⟩:=En (x.den:Int) (y.den:Int);generalize ((Int.gcd x.den y.den:Nat):Int)=g at *;have t:g≠0:=fun o=>qT x (by rw[E,o,Jy]);rw[E,vQ t] at o;exact qT x (by rw[E,o,Gb])
 have :∃z,kY (some x) (some y)=some z:=by simp only[kY,lY,nL,norm_le P (Ay O A1),norm_le S (Ay Z A1),norm_le u W,norm_le U A0,rQ];rw[if_neg hd];exact⟨_,rfl⟩
 obtain⟨z,s⟩:=this;obtain⟨_,_,T,f,rfl⟩:=FH s;obtain rfl:=Aa T;obtain rfl:=Aa f;exact s
theorem XO(C:Bq x a b)(Q:Bq y c d)(o:y≠0)(O:a+d<=511)(Z:b+c<=511):Us (some x) (some y)=some (x / y):=by
 have A:y.num≠0:=fun h=>o (Rat.num_eq_zero.1 h)
 have e:rQ (some (y.den:Int)) (some y.num)=some y⁻¹ :=by simp[rQ,if_neg,A,Rat.inv_def]
 have F:Bq y⁻¹ d c:=by rw[Rat.inv_def];exact .divInt A ZbL Q.1
 simp only[Us,e];rw[pB C F O Z,Rat.div_def]
theorem MT{x:α->Option Int}{y:α->Int}(I:a<=511){B:Nat}{T:List α}(h:∀t∈T,x t=some (y t))(S:∀t∈T,(y t).natAbs<=B)(A:T.length*B<=2^a):pW x T=some (dB y T):=by
 have b:∀(T:List α) (s:Int),(∀t∈T,x t=some (y t))->(∀t∈T,(y t).natAbs<=B)->s.natAbs+T.length*B<=2^a->T.foldl (fun s t=>nL s (x t)) (some s)=some (s+dB y T):=by
  intro T
  induction T with
  |nil=>simp[dB]
  |cons t T z=>intro s h S A;have O:=S t Az;rw[Ba,Dm] at A;have e:nL (some s) (some (y t))=some (s+y t):=norm_le (a:=a) A0 I;rw[List.foldl_cons,h t Az,e,z _ (fun u K=>h u (As _ K)) (fun u K=>S u (As _ K)) A0];simp only[dB];congr 1;omega
 have :=b T 0 h S Zcy;rw[Int.zero_add] at this;exact this
def xB:Option Rat->Option Rat
 |some x=>some (-x)
 |none=>none
def yS(x y:Option Rat):Option Rat:=kY x (xB y)
theorem MP(C:Bq x a b)(Q:Bq y c d)(O:a+d<=510)(Z:c+b<=510)(W:b+d<=511):yS (some x) (some y)=some (x -y):=by show kY (some x) (some (-y))=_;rw[sX C Q.neg O Z W,Rat.sub_eq_add_neg]
theorem Bq.sub{e:Nat}(C:Bq x a b)(Q:Bq y c d)(O:a+d<e)(Z:c+b<e):Bq (x -y) e (b+d):=by rw[Rat.sub_eq_add_neg];exact C.add Q.neg O Z
def stX(c d:Nat->Option Rat)(i n:Nat):Option Rat:=yS (yS (lB (d i) (d n)) (lB (c i) (d n))) (lB (d i) (c n))
def stS(c d:Nat->Option Rat):Option Rat:=yS (sQ d d 3) (lB (some ((2:Int):Rat)) (sQ c d 3))
def stY(c d:Nat->Option Rat)(i n:Nat):Option Rat:=if i=n then kY (stS c d) (xB (stX c d i n)) else xB (stX c d i n)
def stK(j c d:Nat->Option Rat)(i n:Nat):Option Rat:=kY (j (3*i+n)) (lB (some ((7:Int):Rat)) (stY c d i n))
theorem Ox(q:Rat):(cQ q).take 18=cI q.num/\((cQ q).drop 18).take 18=cI (q.den:Int):=by refine⟨by unfold cQ;rw[Cb Zcz];exact(oL (cC _)).2.1,?_⟩;unfold cQ;rw[Ep Zcz,(oL (cC _)).2.2,Dt];exact(oL (cC _)).2.1
theorem aHk(h:CQ q):CQ (-q):=⟨by rw[Rat.neg_num,Jg];exact h.1,by rw[Rat.neg_den];exact h.2⟩
variable{x:Option Rat}{v:List AV}
theorem gM.neg(h:gM v x):gM (eB (xB x)) (xB x):=by
 cases x with
 |none=>exact .bad
 |some q=>exact .enc (aHk h.some.2)
theorem PJ(J:gM v x)(H:aA):Sg 105 [.agg v] H (.ret (.agg (eB (xB x)))) H:=by
 refine Sp bGh Zbj Zat ?_ H;unfold aUg;dsimp only;simp only[lJ];have a:=mA J;have X:=J.len;refine bP ?_;refine Ty ?_;refine bQ ?_;refine aM fun K hK=>?_;have :=oL X;refine Wy ?_
 cases x with
 |none=>simp only[Co];have :=rG;have :=oL (show SC.length=36 from rfl);have :=oL (show Mc.length=36 from rfl);refine Wy ?_;refine⟨rfl,_,by simp only[↓zP,zR,seval,oL (show SC.length=36 from rfl)];rfl,?_⟩;rfl
 |some q=>
  obtain⟨rfl,N⟩:=J.some;have c:=PX (dN.enc (z:=q.num) N.1);obtain⟨f,b⟩:=Ox q;simp only[Bi];refine Ty ?_;apply hK;clear hK K;have B:(cQ q).length=36:=X;have lo:=jU (wG (some q.num));have n:=cC (q.den:Int)
  have e:cO (wG (some q.num))++cI (q.den:Int)=eB (xB (some q)):=by show cI (-q.num)++_=cI (-q).num++cI ((-q).den:Int);rw[Rat.neg_num,Rat.neg_den]
  have E:=oL (fA (xB (some q)));refine bP ?_;refine Dz ?_;refine Wz ?_;have R:(cO (wG (some q.num))++List.drop 18 Mc).length=36:=by rw[An,lo];rfl
  have L:List.take 18 (cO (wG (some q.num))++List.drop 18 Mc)=cO (wG (some q.num)):=by rw[<-lo,List.take_left]
  have k:List.drop 36 (cO (wG (some q.num))++List.drop 18 Mc)=[]:=Bc A0;simp only[↓zP,zJ,seval,zD,B,b,lo,n,R,L,k,e,E,oL (show Mc.length=36 from rfl)];exact ZaH
theorem PK{w:List AV}{y:Option Rat}(J:gM v x)(L:gM w y)(H:aA):Sg 103 [.agg v,.agg w] H (.ret (.agg (eB (yS x y)))) H:=by refine Sp bGf Zau Zat ?_ H;unfold aUe;dsimp only;simp only[lJ];have a:=PJ L;have q:=GF J L.neg;rw[show kY x (xB y)=yS x y from rfl] at q;have X:=J.len;have R:=L.len;have E:=oL (fA (yS x y));refine bP ?_;refine Ty ?_;refine fW ?_;refine Dz ?_;have :=oL X;have :=oL R;have :=oL (show Mc.length=36 from rfl);refine Wz ?_;refine bQ ?_;refine Tx ?_;refine⟨rfl,_,by simp only[↓zP,zR,seval,E];rfl,?_⟩;rfl
def aQt:Option Rat->Int
 |some q=>jF (some q.num)
 |none=>0
theorem aIm(J:gM v x)(H:aA):Sg 111 [.agg v] H (.ret (.int .i64 (aQt x))) H:=by
 refine So bGn Zbj ?_ H;unfold aUm;dsimp only;have a:=mA J;have X:=J.len;refine bP ?_;refine Ty ?_;refine bQ ?_;refine aM fun K hK=>?_;have :=oL X;refine Wy ?_
 cases x with
 |none=>simp only[Co];refine Ty ?_;refine Rx ?_;rfl
 |some q=>obtain⟨rfl,N⟩:=J.some;have sg:=uQ (dN.enc (z:=q.num) N.1);obtain⟨f,b⟩:=Ox q;simp only[Bi];refine Ty ?_;apply hK;clear hK K;have B:(cQ q).length=36:=X;refine Wz ?_;refine Rx ?_;rfl
def Mr(x:Option Rat):Option Rat:=if aQt x<0 then xB x else xB (xB x)
theorem aQh(J:gM v x)(H:aA):Sg 43 [.agg v] H (.ret (.agg (eB (Mr x)))) H:=by
 refine Sp bQk Zbj Zat ?_ H;unfold W43;dsimp only;simp only[lJ];have sg:=aIm J;have q:=PJ J;have n2:=PJ J.neg;have X:=J.len;have D:=oL (fA (xB x));have B:=oL (fA (xB (xB x)));refine bP ?_;refine Ty ?_;refine bQ ?_;by_cases h:aQt x<0
 . have e:=Ag h;rw[show Mr x=xB x from if_pos h];refine aM fun K hK=>?_;simp only[↓zP,zJ,seval,oL X];refine fC (sg _) ?_;simp only[↓zP,zJ,seval,e,oL X];refine fC (q _) ?_;simp only[↓zP,zJ,seval,D,oL (show Mc.length=36 from rfl)];refine⟨rfl,_,by simp only[↓zP,zR,seval,D];rfl,?_⟩;rfl
 have e:=Ab h;rw[show Mr x=xB (xB x) from if_neg h];refine bP ?_;simp only[↓zP,zJ,seval,oL X];refine fC (sg _) ?_;simp only[↓zP,zG,seval,e];refine bQ ?_;simp only[↓zP,zJ,seval,oL X];refine fC (q _) ?_;refine fC (n2 _) ?_;simp only[↓zP,zJ,seval,B,oL (show Mc.length=36 from rfl)];refine⟨rfl,_,by simp only[↓zP,zR,seval,B];rfl,?_⟩;rfl
theorem aIj{a b:Int}(I:a.natAbs<2^63)(X:b.natAbs<2^63)(H:aA):Sg 41 [.int .i64 a,.int .i64 b] H (.ret (.agg (eB (rQ (some a) (some b))))) H:=by refine Sp bKo Zac Zat ?_ H;unfold W41;dsimp only;simp only[lJ];have c:=qN (z:=a) A0 A0;have T:=qN (z:=b) A0 A0;have t:a.natAbs<W^16:=Bt I A1;have g:b.natAbs<W^16:=Bt X A1;have mk:=rH (dN.enc t) (dN.enc g);have E:=oL (fA (rQ (some a) (some b)));refine bP ?_;refine Tz ?_;refine bQ ?_;have :=oL (show Mc.length=36 from rfl);refine Wz ?_;refine⟨rfl,_,by simp only[↓zP,zR,seval,E];rfl,?_⟩;rfl
theorem aAh(N:CQ q)(H:aA):Sg 157 [.agg (cQ q)] H (.ret (.agg (cI (q.num.fdiv q.den)))) H:=by
 refine So aSr (by simp only[sf];exact cS (some q)) ?_ H;unfold aLh;dsimp only;have a:=mA (gM.enc N);have X:=DO q;obtain⟨f,b⟩:=Ox q;have c:=DI (dN.enc (z:=q.num) N.1) (dN.enc (z:=(q.den:Int)) Zck)
 have e:pM (some q.num) (some (q.den:Int))=(some (q.num.fdiv q.den),some (q.num.fmod q.den)):=by simp only[pM];rw[if_neg (qT q)]
 rw[e] at c;have B:=cC (q.num.fdiv q.den);have F:(AV.bool false::AV.bool false::wC zs).length=18:=by simp[cE];rfl
 simp only[Bi] at a;refine bP ?_;refine Ty ?_;refine fW ?_;have :=oL X;refine Wz ?_;refine bQ ?_;have :=oL F;refine Wz ?_;exact Zbn
theorem aAi{w:List AV}{x y:Nat->Option Rat}(J:ZR v x)(L:ZR w y)(H:aA):Sg 38 [.agg v,.agg w] H (.ret (.agg (c3 fun i=>eB (yS (x i) (y i))))) H:=by
 refine Sp bQh Zau Zaw ?_ H;unfold W38;dsimp only;simp only[wT];obtain⟨c,rfl,R,B⟩:=J.c;obtain⟨d,rfl,hd,n⟩:=L.c;have W:=fun x=>fA x;refine bP ?_;refine Ty ?_;refine bQ ?_;generalize G:(((aA.mk 0 .nil).alloc _).alloc _).alloc _=I;have p:=Kv (i:=0) G;have a1:=Kv (i:=1) G;have Q:=Kv (i:=2) G;clear G;refine bW fun f N=>?_;have s:=Kf (i:=2) N;have q:=Kf (i:=3) N;have m:=Kf (i:=4) N;clear N;refine aM fun K hK=>?_;refine bP ?_;refine Tz ?_;refine bQ ?_;refine cM [] (fun k _ H'=>H'.get 0=some (.cells (c3 fun j=>if j<k then eB (yS (x j) (y j)) else c j) false)/\H'.get 1=some (.cells (c3 d) false)/\H'.get 2=some (.cells GZ false)) 3 A1 rfl A1 ?_ ?_ ?_ ?_
 . exact zq
 . simp only[Al,Cv];exact⟨p,a1,Q⟩
 . rintro k u r a E T ⟨g0,g,o⟩;have k2:u 2=.ref 0 0:=by rw[E 2 rfl];simp only[zB,seval];exact s
   have k3:u 3=.ref 1 0:=by rw[E 3 rfl];simp only[zB,seval];exact q
   have P:∀j,j<3->(if j<k then eB (yS (x j) (y j)) else c j).length=36:=fun j Y=>by split<;>first|exact W _|exact B j Y
   have D:=oS P a;rw[if_neg (Ec k)] at D;have b:=oS n a;have mk:=PK (R k a) (hd k a);exact Zah
 rintro u r E ⟨g0,g,o⟩;have k2:u 2=.ref 0 0:=by rw[E 2 rfl];simp only[zB,seval];exact s
 have k4:u 4=.ref 2 0:=by rw[E 4 rfl];simp only[zB,seval];exact m
 have e:(c3 fun j=>if j<3 then eB (yS (x j) (y j)) else c j)=c3 fun i=>eB (yS (x i) (y i)):=iJ fun j Y=>if_pos Y;rw[e] at g0;have P:∀j,j<3->(eB (yS (x j) (y j))).length=36:=fun j _=>W _;exact Zap
def EP(q:Rat):Int:=if(q.den:Int) -q.num.fmod q.den<=q.num.fmod q.den then q.num.fdiv q.den+1 else q.num.fdiv q.den
theorem qi(q:Rat):2*(q.num -EP q*q.den)<=q.den/\-(q.den:Int)<=2*(q.num -EP q*q.den):=by
 have e:=Int.fmod_add_mul_fdiv q.num q.den;have hd:0<(q.den:Int):=by have :=q.den_pos;omega
 have o:=Int.fmod_nonneg_of_pos q.num hd;have O:=Int.fmod_lt_of_pos q.num hd;unfold EP;split<;>grind
theorem aTs(h:q.num.natAbs<=B*q.den):(EP q).natAbs<=B:=by
 obtain⟨O,Z⟩:=qi q;have hd:0<(q.den:Int):=by have :=q.den_pos;omega
 have X:((B*q.den:Nat):Int)=(B:Int)*q.den:=by simp
 generalize EP q=z at *;generalize (q.den:Int)=d at *
 rcases Int.lt_or_le (B:Int) z with c|c
 . have :=Int.mul_le_mul_of_nonneg_right (show(B:Int)+1<=z by omega) (show 0<=d by omega)
   grind
 rcases Int.lt_or_le z (-(B:Int)) with c2|c2
 . have :=Int.mul_le_mul_of_nonneg_right (show z<=-(B:Int) -1 by omega) (show 0<=d by omega)
   grind
 omega
theorem aIk(N:CQ q)(A:(EP q).natAbs<2^63)(H:aA):Sg 74 [.agg (cQ q)] H (.ret (.agg (cI (EP q)))) H:=by
 refine So bLb (by simp only[sf];exact cS (some q)) ?_ H;unfold W74;dsimp only;have a:=aAh N;have X:=DO q;obtain⟨f,b⟩:=Ox q;have J:=dN.enc (z:=q.num) N.1;have w:=dN.enc (z:=(q.den:Int)) Zck;have s:=Uc J w;have u:=dN.aYt (x:=some q.num) w
 have e:pM (some q.num) (some (q.den:Int))=(some (q.num.fdiv q.den),some (q.num.fmod q.den)):=by simp only[pM];rw[if_neg (qT q)]
 rw[e] at s u;have hd:0<(q.den:Int):=by have :=q.den_pos;omega
 have o:=Int.fmod_nonneg_of_pos q.num hd;have O:=Int.fmod_lt_of_pos q.num hd;have v:=Ug w u
 have es:nL (some (q.den:Int)) (wG (some (q.num.fmod q.den)))=some ((q.den:Int) -q.num.fmod q.den):=by show norm _=_;unfold norm;rw[if_pos (by have :=N.2;omega)];rfl
 rw[es] at v;have y:=dN.enc (z:=(q.den:Int) -q.num.fmod q.den) (by have :=N.2;omega);have k:=DE u y;have T:=PL;have L:=dN.enc (z:=q.num.fdiv q.den) (Bn (tC (qT q)).1 N.1);have S:=tU L (dN.enc (z:=1) A1);have Q:(cI (q.num.fdiv q.den)).getD 0 aB=.bool false:=rfl;have p:=cC (q.num.fdiv q.den);have E:(cO (some (q.num.fmod q.den))).length=18:=jU _;have F:(AV.bool false::AV.bool false::wC zs).length=18:=by simp[cE];rfl
 refine bP ?_;refine Ty ?_;refine bQ ?_;have R:=cC (q.den:Int);have t:=cC (q.num.fmod q.den);have r:cO (some (q.num.fmod q.den))=cI (q.num.fmod q.den):=rfl;have B:cO (some ((q.den:Int) -q.num.fmod q.den))=cI ((q.den:Int) -q.num.fmod q.den):=rfl;rw[r] at s v k;rw[B] at v;have M:=(oL p);refine bP ?_;have :=oL X;have :=oL F;refine Wz ?_;refine bQ ?_;generalize hX:aA.set _ 2 _=I;have g0:=Kv (i:=0) hX;have g:=Kv (i:=1) hX;have d:=Kv (i:=2) hX;have l:I.next=3:=by subst hX;rfl
 clear hX;refine bP ?_;refine Wz ?_;refine bQ ?_;refine aM fun K hK=>?_;refine Wy ?_;generalize hX:aA.set _ 3 _=D
 replace g0:=Kx (i:=0) hX
 replace g:=Kx (i:=1) hX
 replace d:=Kx (i:=2) hX
 have C:=Kv (i:=3) hX;clear hX l;refine Dz ?_;simp only[↓zP,zJ,seval,zD,C,g0,t,X,b];refine gH (v _) ?_;simp only[seval];refine gH (k _) ?_
 have j:decide (lO (some (q.num.fmod q.den)) (some ((q.den:Int) -q.num.fmod q.den))≥0)=decide ((q.den:Int) -q.num.fmod q.den<=q.num.fmod q.den):=by
  rw[Aw];simp only[lO];split
  . omega
  split<;>omega
 refine Wy ?_;refine⟨fun h=>?_,fun h=>?_⟩
 . have c:EP q=q.num.fdiv q.den+1:=if_pos h
   have m:nL (some (q.num.fdiv q.den)) (some 1)=some (EP q):=by show norm _=_;unfold norm;rw[<-c,if_pos (Bt A A1)]
   rw[m] at S;have P:cO (some (EP q))=cI (EP q):=rfl;rw[P] at S;have n:=cC (EP q);clear hK;refine Dz ?_;have :=oL p;refine Wz ?_;refine⟨rfl,_,by simp only[↓zP,zR,seval,oL n];rfl,?_⟩;rfl
 have c:EP q=q.num.fdiv q.den:=if_neg h;rw[c] at hK;apply hK;clear hK K;refine Wz ?_;refine⟨rfl,_,by simp only[↓zP,zR,seval,oL p];rfl,?_⟩;rfl
def z54:List AV:=c3 fun _=>cO (some 0)
theorem sW:[AV.bool false,AV.bool false,AV.int .u32 0,AV.int .u32 0,AV.int .u32 0,AV.int .u32 0,AV.int .u32 0,AV.int .u32 0,AV.int .u32 0,AV.int .u32 0,AV.int .u32 0,AV.int .u32 0,AV.int .u32 0,AV.int .u32 0,AV.int .u32 0,AV.int .u32 0,AV.int .u32 0,AV.int .u32 0,AV.bool false,AV.bool false,AV.int .u32 0,AV.int .u32 0,AV.int .u32 0,AV.int .u32 0,AV.int .u32 0,AV.int .u32 0,AV.int .u32 0,AV.int .u32 0,AV.int .u32 0,AV.int .u32 0,AV.int .u32 0,AV.int .u32 0,AV.int .u32 0,AV.int .u32 0,AV.int .u32 0,AV.int .u32 0,AV.bool false,AV.bool false,AV.int .u32 0,AV.int .u32 0,AV.int .u32 0,AV.int .u32 0,AV.int .u32 0,AV.int .u32 0,AV.int .u32 0,AV.int .u32 0,AV.int .u32 0,AV.int .u32 0,AV.int .u32 0,AV.int .u32 0,AV.int .u32 0,AV.int .u32 0,AV.int .u32 0,AV.int .u32 0]=z54:=rfl
theorem bDz{a b c:List AV}(I:a.length=18)(X:b.length=18)(R:c.length=18):(a++List.drop 18 z54).length=54/\(a++List.drop 18 z54).take 18++b++(a++List.drop 18 z54).drop 36=a++b++List.drop 36 z54/\(a++b++List.drop 36 z54).length=54/\(a++b++List.drop 36 z54).take 36++c++(a++b++List.drop 36 z54).drop 54=a++b++c:=by
 have Y:z54.length=54:=rfl;have O:(a++List.drop 18 z54).length=54:=by rw[An,Gi];omega
 have Z:(a++b).length=36:=by rw[An];omega
 have W:(a++b++List.drop 36 z54).length=54:=by rw[An,Gi];omega
 refine⟨O,?_,W,?_⟩
 . rw[<-I,List.take_left,I,Eu,Bc A0,Dt,Je,I]
 rw[Cb A0,Au A0,Bc A0,Bx]
theorem aMj(m:Pok ls){q:Nat->Rat}(D:∀i,FI ls i=some (q i)/\CQ (q i))(A:∀i,(EP (q i)).natAbs<2^62)(M C L r1:Int)(H:aA):
 Sg 17 [.agg (bd name ls M C L r1)] H (.ret (.agg (cG ⟨EP (q 0),EP (q 1),EP (q 2)⟩))) H:=by
 refine Sp bHr (by simp only[sf,sM]) Zae ?_ H;unfold W17;dsimp only;simp only[wT];simp only[sW];have ce:=lj (name:=name) m M C L r1;have e:(fun i=>eB (FI ls i))=fun i=>cQ (q i):=funext fun i=>by rw[(D i).1];rfl
 rw[e] at ce;have f:(bd name ls M C L r1).length=6:=rfl;have B:∀i,i<3->(cQ (q i)).length=36:=fun i _=>DO _;have U:=jC B;have c:=fun i=>aIk (D i).2 (Bt (A i) A1);have v:(c3 fun i=>cQ (q i)).take 36=cQ (q 0):=oS (i:=0) B A1;have t1:((c3 fun i=>cQ (q i)).drop 36).take 36=cQ (q 1):=oS (i:=1) B A1;have t2:((c3 fun i=>cQ (q i)).drop 72).take 36=cQ (q 2):=oS (i:=2) B A1;have fz:∀i,(EP (q i)).natAbs<W^16:=fun i=>Bt (A i) A1;have j:=Tl (a:=fun i=>cI (EP (q i))) (x:=fun i=>some (EP (q i))) (fun i _=>.enc (fz i))
 have es:∀i,(fH (some (EP (q i)))).1=EP (q i):=fun i=>by have :=A i;simp only[fH];rw[if_pos A0]
 rw[es,es,es] at j;have b:=fun i=>cC (EP (q i));have n:=oL (aT ⟨EP (q 0),EP (q 1),EP (q 2)⟩);refine bP ?_;refine Ty ?_;refine fW ?_;have :=oL f;have :=oL rO;refine Wz ?_;refine bQ ?_;generalize G:aA.set _ 2 _=I;have g:=Kv (i:=1) G;have d:=Kv (i:=2) G;clear G;refine bP ?_;refine Dz ?_;have :=c 0;have :=c 1;have :=c 2;refine Wz ?_;obtain⟨w1,w2,h,t⟩:=bDz (b 0) (b 1) (b 2);have :z54.length=54:=rfl;refine Wz ?_;rw[show cI (EP (q 0))++cI (EP (q 1))++cI (EP (q 2))=c3 fun i=>cI (EP (q i)) by simp only[c3,Dg]];refine Wz ?_;refine bQ ?_;refine Tx ?_;refine⟨rfl,_,by simp only[↓zP,zR,seval,n];rfl,?_⟩;rfl
end Go.Proofs.YtogfcjbgeebfkaaGreatDoor
