/-
  Part of the proof of statement 9
-/
import Derived.Test.YtogfcjbgeebfkaaGreatDoorA34
import Derived.Test.YtogfcjbgeebfkaaGreatDoorA35
import Derived.Test.YtogfcjbgeebfkaaGreatDoorA07
import Derived.Test.YtogfcjbgeebfkaaGreatDoorA24
import Derived.Test.YtogfcjbgeebfkaaGreatDoorA23
set_option linter.unusedSimpArgs false
set_option linter.unusedVariables false
set_option maxRecDepth 100000
set_option maxHeartbeats 16000000
namespace Go.Proofs.YtogfcjbgeebfkaaGreatDoor
open Go Go.Av Go.aC Go.jG
attribute [local congr] aX aQ aR aL bA aW aS aG bB
attribute [local irreducible] FC bT eI
variable{tag:Nat}
theorem aAt(W:Nat.blt tag 2=true){l:List aC.V}{M:Nat}(U:∀v∈l,bN M v)(g:M<=2^18){E:List (Nat×Nat)}(P:E.length<=2^20)(n:E≠[])(w:∀p∈E,p.1<l.length/\p.2<l.length)
 (u:∀H,Sg 187 [.agg [.bJ tag 3 (bR l)]] H (.ret (mB 2 ((E.map pN).map pC))) H) (H:aA):
 Sg 98 [.agg [.bJ tag 3 (bR l)]] H (.ret (.bJ 0 3 (bR (E.map (HJ l))))) H:=by
 refine eP fit eE bRc (Ai rfl) (by simp only[sf,cT W]) ?_ H;unfold W98;dsimp only;have y:∀k (h:k<l.length),l.getD k V0=l[k]:=fun k h=>by simp[List.getD,h]
 rw[show mB 2 ((E.map pN).map pC)=.bJ 0 2 ((E.map pN).map pC) from if_neg (by simpa using n)] at u;refine Ty ?_;refine fC (u _) ?_;refine Tz ?_;refine cL [3] (fun i vs H'=>∃v,vs=[v]/\Own H' 3 v (bR ((E.take i).map (HJ l)))/\1<=H'.next/\H'.get 0=some (.cells [.bJ tag 3 (bR l)] false)) 0 E.length (Bk _) A0 A1 ?_ ?_ ?_ ?_ ?_
 . exact zq
 . exact ZaC
 . rintro i f H1 o F G T _;have m:f 4=.bJ 0 2 ((E.map pN).map pC):=G 4 rfl;simp only[↓zP,zG,seval,T,m,Ah];exact tB A0
 . rintro i f H1 o F G T ⟨v,J,S,A,g0⟩;simp only[zM] at J;have b:f 1=.ref 0 0:=G 1 rfl;have m:f 4=.bJ 0 2 ((E.map pN).map pC):=G 4 rfl;have t:((E.map pN).map pC).getD i []=pC (pN E[i]):=by rw[Da];exact eO F
   obtain⟨I,X⟩:=w _ (Ac F)
   have K:(E.take (i+1)).map (HJ l)=(E.take i).map (HJ l)++[HJ l E[i]]:=by rw[Ao,Cd];simp[F]
   have e:((E.take i).map (HJ l)).length<=2^20:=Zaf;have B:((E.map pN).map pC).length=E.length:=(by rw[Ah,Ah]);rw[K];generalize (E.take i).map (HJ l)=els at *;generalize E[i]=p at *;have s:=cH I;have L:=cH X;have j:=U _ (Ac I);have x:=U _ (Ac X);have D:aC.sub l[p.2] l[p.1]=HJ l p:=(by simp only[HJ,y p.2 X,y p.1 I]);have R:(pC (pN p)).getD 0 aB=.int .i64 (p.1:Int):=rfl;have q1:(pC (pN p)).getD 1 aB=.int .i64 (p.2:Int):=rfl;have r1:(List.drop 1 (pC (pN p))).getD 0 aB=.int .i64 (p.2:Int):=rfl;have r2:1<=(List.drop 1 (pC (pN p))).length:=Ae _;have ta:(cG l[p.1]).take 3=cG l[p.1]:=rfl;have tb:(cG l[p.2]).take 3=cG l[p.2]:=rfl;obtain⟨r,q,c,C,a,N⟩:=Has.push (.inr S) (ys:=[cG (HJ l p)]) (bytes:=24) rfl Zb1;refine aJ ?_;refine Dz ?_;simp only[↓zP,zJ,seval,zD,b,m,T,J,g0,B,F,t,RE,R,r1,r2,AR,aD,aU,I,X,s,L,oL (aT l[p.1]),oL (aT l[p.2])];refine gH (AL x j A0 _) ?_;rw[D];simp only[↓zP,zJ,seval,zD,oL (aT (HJ l p))];rw[eL];simp only[q,bX,seval];rw[show bR (els++[HJ l p])=bR els++[cG (HJ l p)] from by simp[bR]];exact⟨by omega,_,rfl,.inr ⟨H1.next,rfl,by omega,C⟩,by omega,(a 0 A0 (by rw[g0];simp)).trans g0⟩
 rintro f H1 G ⟨v,J,S,A,g0⟩;simp only[zM] at J;rw[Aq] at S;simp only[↓zP,seval,J];refine Rx ?_;refine⟨v,0,rfl,fun d=>?_⟩;have z:bR (E.map (HJ l))≠[]:=by simpa [bR] using n
 rcases S with ⟨_,h⟩|⟨k,rfl,O,Z⟩
 . exact absurd h z
 have Q:fN (bR (E.map (HJ l)))=true:=dP bV _;simp[jB,mJ,Q,GY]
theorem aGy{I:List Nat}{a b:Nat}:IP I I.length a b=true↔aC.Next I a b\/aC.Next I b a:=by
 have t:∀(i x:Nat),i<I.length->(I.getD i 0=x↔I[i]?=some x):=fun i x h=>by simp[List.getD,h]
 simp only[IP,Cj,Ax,Ea,Ak,Dl,aC.Next];constructor
 . rintro⟨i,F,h⟩;have p:(i+1)%I.length<I.length:=Bz _ A0
   rcases h with ⟨O,Z⟩|⟨O,Z⟩
   . exact .inl ⟨i,F,(t i a F).1 O,(t _ b p).1 Z⟩
   exact .inr ⟨i,F,(t i b F).1 O,(t _ a p).1 Z⟩
 rintro(⟨i,F,O,Z⟩|⟨i,F,O,Z⟩)
 . have p:(i+1)%I.length<I.length:=Bz _ A0;exact⟨i,F,.inl ⟨(t i a F).2 O,(t _ b p).2 Z⟩⟩
 have p:(i+1)%I.length<I.length:=Bz _ A0;exact⟨i,F,.inr ⟨(t i b F).2 O,(t _ a p).2 Z⟩⟩
theorem pz{S:List (aC.V×Int)}{L:aC.V×Int->List Nat}{N:Nat}{x:Int×Int}:
 x∈Rz S L N N↔∃a b:Nat,a<b/\b<N/\Wt S L a b=true/\x=pN (a,b):=by
 simp only[Rz,JT,Ed,Bb,Ft,Ax,Ak,Br,pN];constructor
 . rintro⟨a,I,b,⟨X,j,h⟩,rfl⟩;exact⟨a,b,j,X,h,rfl⟩
 rintro⟨a,b,j,X,h,rfl⟩;exact⟨a,by omega,b,⟨X,j,h⟩,rfl⟩
theorem Wu{l:List aC.V}(U:l.Pairwise iO){S:List (aC.V×Int)}{L:aC.V×Int->List Nat}(u:vJ l S L){a b:Nat}:Wt S L a b=true↔∃q∈S,aC.Next (L q) a b:=by
 simp only[Wt,Cj,aGy];constructor
 . rintro⟨q,D,h|h⟩
   . exact⟨q,D,h⟩
   obtain⟨f,d',g,i,o,k⟩:=(u.po q D).back (BA U) ((u.fl.mem q).1 D) h;have y:=(u.fl.mem (f,d')).2 i;rw[o.uniq (u.po _ y)] at k;exact⟨(f,d'),y,k⟩
 rintro⟨q,D,h⟩;exact⟨q,D,.inl h⟩
theorem RT(P:Nat.blt tag 2=true){l:List aC.V}(o:mS l=0){M:Nat}(A:∀v∈l,bN M v)(g:M<=2^18):∃U:List aC.V,U.length<=2^20/\U≠[]/\(∀v,v∈U↔IsE l v)/\(∀v∈U,bN (M+M) v)/\
 (∀H,Sg 96 [.agg [.bJ tag 3 (bR l)]] H (.ret (.bJ (H.next+2) 5 ((dY l).map (cX (fU l))))) (H.alloc .tok))/\
 ∀H,Sg 98 [.agg [.bJ tag 3 (bR l)]] H (.ret (.bJ 0 3 (bR U))) H:=by
 obtain⟨N,_,z,f,Q,d,_⟩:=nB o;have L:=jO N;have u:=aAo P A g Q L f
 have w:∀x∈Rz (dY l) (fU l) l.length l.length,∃a b:Nat,a<b/\(∃q∈dY l,aC.Next (fU l q) a b)/\x=pN (a,b):=fun x C=>by obtain⟨a,b,O,Z,W,rfl⟩:=pz.1 C;exact⟨a,b,O,(Wu N L).1 W,rfl⟩
 have s:∀q∈dY l,∀a b,aC.Next (fU l q) a b->a<l.length/\b<l.length:=fun q D a b h=>by have O:=(L.po q D).lZ.1 h;exact⟨(cJ.1 O.1).1,(cJ.1 O.2.1).1⟩
 have K:∀a b:Nat,a<b->(∃q∈dY l,aC.Next (fU l q) a b)->pN (a,b)∈Rz (dY l) (fU l) l.length l.length:=fun a b j h=>by obtain⟨q,D,F⟩:=h;exact pz.2 ⟨a,b,j,(s q D a b F).2,(Wu N L).2 ⟨q,D,F⟩,rfl⟩
 have G:(Rz (dY l) (fU l) l.length l.length).length<=2^20:=by have :=rh (dY l) (fU l) l.length l.length;have :l.length*l.length<=64*64:=Be Q Q;omega
 have n:Rz (dY l) (fU l) l.length l.length≠[]:=by
  have :=QB N L z;obtain⟨x,r,h⟩:=Ek this;have C:x∈KH (dY l) (fU l):=by rw[h];simp
  obtain⟨q,D,a,b,F,j,rfl⟩:=(BP L).1 C;intro B;have :=K a b j ⟨q,D,F⟩;rw[B] at this;cases this
 generalize Rz (dY l) (fU l) l.length l.length=E at *
 have Y:E=(E.map fun x=>(x.1.toNat,x.2.toNat)).map pN:=by rw[Da];refine(Fv E).symm.trans (Dd fun x C=>?_);obtain⟨a,b,_,_,rfl⟩:=w x C;simp[pN]
 generalize c:(E.map fun x=>(x.1.toNat,x.2.toNat))=i at *
 have I:∀p:Nat×Nat,p∈i↔(∃q∈dY l,aC.Next (fU l q) p.1 p.2)/\p.1<p.2:=fun p=>by
  rw[<-c,Bb];constructor
  . rintro⟨x,C,rfl⟩;obtain⟨a,b,O,Z,rfl⟩:=w x C;exact⟨by simpa [pN] using Z,by simpa [pN] using O⟩
  rintro⟨O,Z⟩;exact⟨pN p,K p.1 p.2 Z O,by simp[pN]⟩
 refine⟨i.map (HJ l),?_,?_,?_,?_,fun H=>Yg tag A g Q L z P H,fun H=>aAt P A g (E:=i) ?_ ?_ ?_ ?_ H⟩
 . rw[Ah,<-c,Ah];exact G
 . intro e;rw[Fu,<-c,Fu] at e;exact n e
 . intro v;rw[Bb];constructor
   . rintro⟨p,m,rfl⟩;obtain⟨⟨q,D,O⟩,Z⟩:=(I p).1 m;have W:=(L.po q D).lZ.1 O;exact⟨q,(L.fl.mem q).1 D,p.1,p.2,W.2,W.1,Z,rfl⟩
   rintro⟨q,D,a,b,O,Z,W,rfl⟩;have y:=(L.fl.mem q).2 D;exact⟨(a,b),(I (a,b)).2 ⟨⟨q,y,(L.po q y).lZ.2 ⟨Z,O⟩⟩,W⟩,rfl⟩
 . intro v J;obtain⟨p,m,rfl⟩:=Bb.1 J;obtain⟨⟨q,D,O⟩,Z⟩:=(I p).1 m;obtain⟨R,T⟩:=s q D _ _ O
   have t:∀k,k<l.length->bN M (l.getD k V0):=fun k S=>by have :l.getD k V0=l[k]:=(by simp[List.getD,S]);rw[this];exact A _ (Ac S)
   exact gU (t _ T) (t _ R)
 . rw[<-c,Ah];exact G
 . intro e;rw[<-c,Fu] at e;exact n e
 . intro p m;obtain⟨⟨q,D,O⟩,Z⟩:=(I p).1 m;exact s q D _ _ O
 rw[<-Y];exact u
variable{v:aC.V}
theorem ju{B:Nat}(J:bN B v)(S:B<2^62)(H:aA):Sg 75 [.agg (c3 fun i=>cI (v.at i))] H (.ret (.agg (cG v))) H:=by
 refine Sp bQv Za8 Zae ?_ H;unfold W75;dsimp only;have U:=fun i (F:i<3)=>qR (c:=fun i=>cI (v.at i)) (fun i _=>cC _) F;have t:(c3 fun i=>cI (v.at i)).take 18=cI (v.at 0):=U 0 A1;have D:((c3 fun i=>cI (v.at i)).drop 18).take 18=cI (v.at 1):=U 1 A1;have a:((c3 fun i=>cI (v.at i)).drop 36).take 18=cI (v.at 2):=U 2 A1;have A:(c3 fun i=>cI (v.at i)).length=54:=gG fun _ _=>cC _
 have M:∀i,∀H,Sg 159 [.agg (cI (v.at i))] H (.ret (.jS [.int .i64 (v.at i),.bool true])) H:=fun i=>by have :=bN.c J i;exact Tw A0 A0
 refine bP ?_;refine Ty ?_;refine bQ ?_;have :=M 0;have :=M 1;have :=M 2;refine Wz ?_;exact ZaD
theorem aZc{a b Z:List AV}(I:a.length=18)(X:b.length=18)(d:Z.length=18):
 (if True/\36<=(a++Z).length/\True then some ((a++Z).take 18++b++(a++Z).drop 36) else none)=some (a++b):=by
 have U:(a++Z).length=36:=by rw[An,I,d]
 rw[if_pos ⟨trivial,by omega,trivial⟩,Cb A0,Au A0,Bc A0,Bx]
theorem Ys(q:Nat.blt tag 2=true){l:List aC.V}{M B:Nat}(U:∀v∈l,bN M v)(Q:l.length<2^30){n:aC.V}(A:bN B n)(hM:M<2^31)(hB:B<2^31)(hs:3*(B*M)<2^62){x0:aC.V}{r:List aC.V}(C:l=x0::r)(H:aA):
 Sg 186 [.agg [.bJ tag 3 (bR l)],.agg (cG n)] H (.ret (.agg (cI (wX n (aC.dot n x0) l)++cI (wV n (aC.dot n x0) l)))) H:=by
 have ag:∀v∈l,∀H,Sg 215 [.agg (cG n),.agg (cG v)] H (.ret (.agg (cI (aC.dot n v)))) H:=fun v J H=>aQl A (U v J) hB hM hs H;refine Sp bHx (by simp only[sf,cT q,bV]) (by simp only[AV.free,mM,lk];rfl) ?_ H;unfold aVt;dsimp only;have s:0<l.length:=by rw[C];simp
 have aq:l[0]=x0:=by subst C;rfl
 have g0:=cH s;have TT:=ag _ (Ac s);have p:asNat (.int .i64 0)=some 0:=rfl;have R:∀z,(cI z).length=18:=fun z=>by simp[cI,cE,cK]
 have d3:∀v:aC.V,(cG v).take 3=cG v:=fun _=>rfl;refine bP ?_;refine Ty ?_;refine bQ ?_;generalize G:(((aA.mk 0 .nil).alloc _).alloc _).alloc _=I;have m0:=Kv (i:=0) G;have m1:=Kv (i:=1) G;obtain⟨z,Y,lz⟩:∃z,I.get 2=some (.cells z false)/\z.length=36:=⟨_,by subst G;simp only[zI,seval];rfl,by simp[cE];rfl⟩;have mn:I.next=3:=by subst G;simp only[zI,seval]
 have mf:bH I:=by subst G;exact(((bH.nil 0).alloc _).alloc _).alloc _
 clear G;refine bP ?_;refine fT 1 A1 mf.vm fun H1 n1 T=>?_;simp only[↓zP,zJ,seval,zD,m0,m1,mn,T,p,aU,s,g0,oL (aT l[0]),oL (aT n)];have rU:(AV.bool false::AV.bool false::wC zs).length=18:=by simp[cE];rfl
 refine gH (TT _) ?_;rw[aq];generalize hd:aC.dot n x0=Z at *;rw[mn] at n1;simp only[↓zP,zJ,seval,zD,R,rU,oL rU,n1,T];refine bQ ?_;have f3:bH H1:=fun j hj=>by rw[T j];exact mf j A0
 generalize G:(H1.set 3 _).set 3 _=D;have b0:D.get 0=some (.cells [.bJ tag 3 (bR l)] false):=by subst G;rw[aA.aH,if_neg A1,aA.aH,if_neg A1,T];exact m0
 have b1:D.get 1=some (.cells (cG n) false):=by subst G;rw[aA.aH,if_neg A1,aA.aH,if_neg A1,T];exact m1
 have b2:D.get 2=some (.cells z false):=by subst G;rw[aA.aH,if_neg A1,aA.aH,if_neg A1,T];exact Y
 have b3:=Kz G;have t:D.next=4:=by subst G;simp only[aA.aZ];omega
 have bf:bH D:=by subst G;exact(f3.set A0 _).set ZbH _
 clear G;have hT:∀a b:Int,(cI a++cI b).take 18=cI a:=fun a b=>by rw[Cb (by rw[R];exact Ae _),<-R a,Aq]
 have hD:∀a b:Int,(cI a++cI b).drop 18=cI b:=fun a b=>by rw[<-R a,List.drop_left]
 have a7:∀a b:Int,(cI a++cI b).length=36:=fun a b=>by rw[An,R,R]
 refine bP ?_;simp only[↓zP,zJ,seval,b3,oL (R Z)];rw[aZc (R Z) (R Z) rU];have Mc:(AV.bool false::AV.bool false::AV.int .u32 0::AV.int .u32 0::AV.int .u32 0::AV.int .u32 0::AV.int .u32 0::AV.int .u32 0::AV.int .u32 0::AV.int .u32 0::AV.int .u32 0::AV.int .u32 0::AV.int .u32 0::AV.int .u32 0::AV.int .u32 0::AV.int .u32 0::AV.int .u32 0::AV.int .u32 0::AV.bool false::AV.bool false::wC zs).length=36:=by simp[cE];rfl
 generalize (AV.bool false::AV.bool false::AV.int .u32 0::AV.int .u32 0::AV.int .u32 0::AV.int .u32 0::AV.int .u32 0::AV.int .u32 0::AV.int .u32 0::AV.int .u32 0::AV.int .u32 0::AV.int .u32 0::AV.int .u32 0::AV.int .u32 0::AV.int .u32 0::AV.int .u32 0::AV.int .u32 0::AV.int .u32 0::AV.bool false::AV.bool false::wC zs)=ay at *;simp only[zJ,seval,a7,oL Mc,t];refine bQ ?_;generalize G:((D.alloc _).set 4 _)=HC;have p0:HC.get 0=some (.cells [.bJ tag 3 (bR l)] false):=by subst G;rw[aA.aH,if_neg A1,aA.aI,t,if_neg A1];exact b0
 have p1:HC.get 1=some (.cells (cG n) false):=by subst G;rw[aA.aH,if_neg A1,aA.aI,t,if_neg A1];exact b1
 have S:HC.get 2=some (.cells z false):=by subst G;rw[aA.aH,if_neg A1,aA.aI,t,if_neg A1];exact b2
 have p4:=Kz G;have pn:HC.next=5:=by subst G;simp only[aA.aZ,aA.bK];omega
 have pf:bH HC:=by subst G;exact(bf.alloc _).set Zao _
 clear G;have aj:wX n Z (l.take 1)=Z:=by subst C;simp[wX,hd]
 have ak:wV n Z (l.take 1)=Z:=by subst C;simp[wV,hd]
 have af:Z.natAbs<=3*(B*M):=by
  have :=nV A (U x0 (by rw[C];simp))
  rwa [hd] at this
 have ar:3*(B*M)<W^16:=by
  have :2^62<W^16:=by decide
  omega
 refine aM fun K hK=>?_;refine bP ?_;refine Tz ?_;refine bQ ?_;refine cL [] (fun i _ H'=>H'.get 0=some (.cells [.bJ tag 3 (bR l)] false)/\H'.get 1=some (.cells (cG n) false)/\H'.get 2=some (.cells z false)/\H'.get 4=some (.cells (cI (wX n Z (l.take i))++cI (wV n Z (l.take i))) false)/\5<=H'.next/\bH H'/\(wX n Z (l.take i)).natAbs<=3*(B*M)/\(wV n Z (l.take i)).natAbs<=3*(B*M)) 1 l.length A0 A0 A1 ?_ ?_ ?_ ?_ ?_
 . exact zq
 . rw[aj,ak];exact⟨p0,p1,S,p4,by omega,pf,af,af⟩
 . rintro i f w h0 F E P ⟨k,_⟩;have f2:f 2=.ref 0 0:=E 2 rfl;simp only[↓zP,zJ,seval,P,f2,k,aU];exact tB A0
 . rintro i f w h0 F E P ⟨k,q1,q2,q4,qn,qf,c1,m⟩;have f2:f 2=.ref 0 0:=E 2 rfl;have an:f 3=.ref 1 0:=E 3 rfl;have L:f 6=.ref 4 0:=E 6 rfl;have hg:=cH F;have vW:=Ac F;have al:=ag _ vW;have Xs:=nV A (U _ vW)
   have NJ:wX n Z (l.take (i+1))=if aC.dot n l[i]<wX n Z (l.take i) then aC.dot n l[i] else wX n Z (l.take i):=by unfold wX;rw[Ao,Ic];simp[F]
   have yk:wV n Z (l.take (i+1))=if aC.dot n l[i]>wV n Z (l.take i) then aC.dot n l[i] else wV n Z (l.take i):=by unfold wV;rw[Ao,Ic];simp[F]
   rw[NJ,yk];generalize wX n Z (l.take i)=lo at *;generalize wV n Z (l.take i)=N at *;generalize l[i]=x at *;generalize aC.dot n x=d at *;refine aJ ?_;refine bP ?_;refine fT 1 A1 qf.vm fun X n3 e3=>?_;simp only[↓zP,zJ,seval,zD,f2,an,P,k,q1,e3,aD,aU,F,hg,oL (aT x),oL (aT n)];refine gH (al _) ?_;simp only[↓zP,zJ,seval,zD,R,rU,oL rU,n3,e3];refine bQ ?_;have f3:bH X:=fun j hj=>by rw[e3 j];exact qf j A0
   generalize G:(X.set w.next _).set w.next _=o;have y0:=Kw G e3 k;have y1:=Kw G e3 q1;have y2:=Kw G e3 q2;have y4:=Kw G e3 q4;have y8:=Kz G;have O:5<=o.next:=ZbP;have yf:bH o:=(by subst G;exact(f3.set A0 _).set ZbH _);clear G e3 f3;have q8:w.next<o.next:=Cq fun h=>by have :=yf w.next A0;rw[y8] at this;cases this
   clear n3;generalize w.next=r8 at *
   have CT:∀y:Int,(decide (lO (some d) (some y)<0)=decide (d<y))/\(decide (lO (some d) (some y)>0)=decide (d>y)):=fun y=>by constructor<;>(rw[Aw];simp only[lO];split<;>(try split)<;>omega)
   refine aM fun K3 CG=>?_
   have key:∀(u:dD) (H':aA) (ad:Int),u 8=.ref r8 0->u 6=.ref 4 0->H'.get r8=some (.cells (cI d) false)->H'.get 0=some (.cells [.bJ tag 3 (bR l)] false)->H'.get 1=some (.cells (cG n) false)->H'.get 2=some (.cells z false)->H'.get 4=some (.cells (cI ad++cI N) false)->5<=H'.next->bH H'->ad=(if d<lo then d else lo)->K3 u [] H':=by
    intro u H' ad v8 v6 u8 u0 u1 u2 u4 un uf ab;apply CG;clear CG K3;have JH:(if d<lo then d else lo).natAbs<=3*(B*M):=ZaN;have ae:=GH (x:=d) (y:=N) A0 A0;have g:4<H'.next:=A0;refine aM fun K4 a6=>?_;simp only[↓zP,zJ,seval,v8,v6,u8,u4,a7,hD,oL (R d),oL (R N)];refine fC (ae _) ?_;by_cases c:d>N
    . have e:decide (lO (some d) (some N)>0)=true:=(by rw[(CT N).2];exact Ag c);simp only[↓zP,zG,seval,e];apply a6;clear a6 K4;simp only[↓zP,zJ,seval,v8,v6,u8,u4,a7,hT,oL (R d),oL (a7 ad N)];rw[if_pos c,<-ab];exact⟨u0,u1,u2,rfl,un,uf.set g _,by rw[ab];exact JH,Xs⟩
    have e:decide (lO (some d) (some N)>0)=false:=(by rw[(CT N).2];exact Ab c);simp only[↓zP,zG,seval,e];apply a6;clear a6 K4;refine Tz ?_;rw[if_neg c,<-ab];exact⟨u0,u1,u2,u4,un,uf,by rw[ab];exact JH,m⟩
   have ae:=GH (x:=d) (y:=lo) A0 A0;have g:4<o.next:=A0;clear CG;refine aM fun K4 a6=>?_;simp only[↓zP,zJ,seval,L,y8,y4,a7,hT,oL (R d)];refine fC (ae _) ?_;by_cases c:d<lo
   . have e:decide (lO (some d) (some lo)<0)=true:=(by rw[(CT lo).1];exact Ag c);simp only[↓zP,zG,seval,e];apply a6;clear a6 K4;have :=oL (R d);refine Wy ?_;refine key _ _ d zq Zbl ?_ ?_ ?_ ?_ ?_ ?_ (yf.set g _) (if_pos c).symm
     . rw[aA.aH,if_neg A0];exact y8
     . rw[aA.aH,if_neg A0];exact y0
     . rw[aA.aH,if_neg A0];exact y1
     . rw[aA.aH,if_neg A0];exact y2
     . exact ZaR
     simp only[aA.aZ];exact O
   have e:decide (lO (some d) (some lo)<0)=false:=(by rw[(CT lo).1];exact Ab c);simp only[↓zP,zG,seval,e];apply a6;clear a6 K4;refine Tz ?_;exact key _ o lo zq Zbl y8 y0 y1 y2 y4 O yf (if_neg c).symm
 rintro f w E ⟨k,q1,q2,q4,qn,qf,c1,m⟩;have f4:f 4=.ref 2 0:=E 4 rfl;have L:f 6=.ref 4 0:=E 6 rfl;rw[Aq] at q4;refine Tx ?_;apply hK;clear hK K;have :=oL lz;have :=oL (a7 (wX n Z l) (wV n Z l));refine Wz ?_;refine⟨rfl,_,by simp only[↓zP,zR,seval,f4,a7,oL (a7 (wX n Z l) (wV n Z l))];rfl,?_⟩;rfl
variable{ta tb:Nat}
theorem aQr(f:Nat.blt ta 2=true)(e:Nat.blt tb 2=true){a b:List aC.V}{M B:Nat}(I:∀v∈a,bN M v)(X:∀v∈b,bN M v)(m:a.length<2^30)(O:b.length<2^30)(T:a≠[])(SS:b≠[]){n:aC.V}(A:bN B n)(g:M<2^31)(hB:B<2^31)(hs:3*(B*M)<2^62)(H:aA):
 Sg 97 [.agg [.bJ ta 3 (bR a)],.agg [.bJ tb 3 (bR b)],.agg (cG n)] H (.ret (.bool (decide (n≠V0)&&oJ a b n))) H:=by
 obtain⟨xa,ra,w⟩:=Ek T;obtain⟨xb,rb,a6⟩:=Ek SS;have a7:=fun H=>Ys f I m A g hB hs w H;have q:=fun H=>Ys e X O A g hB hs a6 H
 have eh:oJ a b n=(decide (wV n (aC.dot n xa) a<=wX n (aC.dot n xb) b)||decide (wV n (aC.dot n xb) b<=wX n (aC.dot n xa) a)):=by unfold oJ;rw[w,a6];rfl
 refine So bRb (by simp only[sf,cT f,cT e,bV]) ?_ H;unfold W97;dsimp only;have s:[AV.int .i64 0,AV.int .i64 0,AV.int .i64 0]=cG V0:=rfl;have R:∀z,(cI z).length=18:=fun z=>by simp[cI,cE,cK]
 have Q:∀a b:Int,(cI a++cI b).take 18=cI a:=fun a b=>by rw[Cb (by rw[R];exact Ae _),<-R a,Aq]
 have r:∀a b:Int,(cI a++cI b).drop 18=cI b:=fun a b=>by rw[<-R a,List.drop_left]
 have d:∀a b:Int,(cI a++cI b).length=36:=fun a b=>by rw[An,R,R]
 have Mc:(AV.bool false::AV.bool false::AV.int .u32 0::AV.int .u32 0::AV.int .u32 0::AV.int .u32 0::AV.int .u32 0::AV.int .u32 0::AV.int .u32 0::AV.int .u32 0::AV.int .u32 0::AV.int .u32 0::AV.int .u32 0::AV.int .u32 0::AV.int .u32 0::AV.int .u32 0::AV.int .u32 0::AV.int .u32 0::AV.bool false::AV.bool false::wC zs).length=36:=by simp[cE];rfl
 refine bP ?_;refine Ty ?_;refine bQ ?_;generalize G:(((aA.mk 0 .nil).alloc _).alloc _).alloc _=HA;have m0:=Kv (i:=0) G;have C:=Kv (i:=1) G;have Y:=Kv (i:=2) G;have E:HA.next=3:=by subst G;simp only[zI,seval]
 clear G;refine bP ?_;by_cases Z:n=V0
 . simp only[↓zP,zJ,seval,Y,oL (aT n),s,oZ,Ag Z];refine Rx ?_;rw[Ab (fun h=>h Z)];rfl
 simp only[↓zP,zJ,seval,Y,oL (aT n),s,oZ,Ab Z];refine bQ ?_;rw[Ag Z,Dk,eh];refine bP ?_;simp only[↓zP,zJ,seval,m0,Y,oL (aT n)];refine fC (a7 _) ?_;simp only[↓zP,zJ,seval,E,d];refine bQ ?_
 have o:∀v,v∈a\/v∈b->(aC.dot n v).natAbs<=3*(B*M):=fun v J=>by
  rcases J with h|h
  . exact nV A (I v h)
  exact nV A (X v h)
 have da:=o xa (.inl (by rw[w];simp));have db:=o xb (.inr (by rw[a6];simp));have ad:=Ls (n:=n) (l:=a) da fun v J=>o v (.inl J);have ae:=LX (n:=n) (l:=a) da fun v J=>o v (.inl J);have ab:=Ls (n:=n) (l:=b) db fun v J=>o v (.inr J);have P:=LX (n:=n) (l:=b) db fun v J=>o v (.inr J);generalize wX n (aC.dot n xa) a=p at *;generalize wV n (aC.dot n xa) a=ua at *;generalize wX n (aC.dot n xb) b=S at *;generalize wV n (aC.dot n xb) b=ub at *;generalize G:(HA.alloc _).set 3 _=D;have b1:D.get 1=some (.cells [.bJ tb 3 (bR b)] false):=by subst G;rw[aA.aH,if_neg A1,aA.aI,E,if_neg A1];exact C
 have L:D.get 2=some (.cells (cG n) false):=by subst G;rw[aA.aH,if_neg A1,aA.aI,E,if_neg A1];exact Y
 have b3:=Kz G;have t:D.next=4:=by subst G;simp only[aA.aZ,aA.bK];omega
 clear G;refine bP ?_;simp only[↓zP,zJ,seval,b1,L,oL (aT n)];refine fC (q _) ?_;simp only[↓zP,zJ,seval,t,d];refine bQ ?_;generalize G:(D.alloc _).set 4 _=HC;have u:HC.get 3=some (.cells (cI p++cI ua) false):=by subst G;rw[aA.aH,if_neg A1,aA.aI,t,if_neg A1];exact b3
 have U:=Kz G;clear G
 have F:3*(B*M)<W^16:=by
  have :2^62<W^16:=by decide
  omega
 have N:=GH (x:=ua) (y:=S) A0 A0;have j:=GH (x:=ub) (y:=p) A0 A0
 have k:∀x y:Int,decide (lO (some x) (some y)<=0)=decide (x<=y):=fun x y=>by rw[Aw];simp only[lO];split<;>(try split)<;>omega
 refine aM fun K hK=>?_;simp only[↓zP,zJ,seval,u,U,d,Q,r,oL (R _)];refine fC (N _) ?_;by_cases c:ua<=S
 . have d1:decide (lO (some ua) (some S)<=0)=true:=by rw[k];exact Ag c
   refine Wy ?_;apply hK;clear hK K;refine Tx ?_;refine Rx ?_;rw[Ag c];rfl
 have d1:decide (lO (some ua) (some S)<=0)=false:=by rw[k];exact Ab c
 refine Wz ?_;apply hK;clear hK K;refine Tx ?_;refine Rx ?_;rw[Ab c];rfl
theorem Vu(ad:Nat.blt ta 2=true)(ab:Nat.blt tb 2=true){a b:List aC.V}(ha:mS a=0)(hb:mS b=0)(na:∀v∈a,bN (2^12) v)(nb:∀v∈b,bN (2^12) v)(H:aA):
 Sg 32 [.agg [.bJ ta 3 (bR a)],.agg [.bJ tb 3 (bR b)]] H (.ret (.bool (lP a b))) H:=by
 obtain⟨U,lU,zU,mU,nU,fa,ea⟩:=RT ad ha na A1;obtain⟨l,lW,zW,mW,nW,fb,eb⟩:=RT ab hb nb A1;obtain⟨sa,_,c4,bF,bE,ba,_⟩:=nB ha;obtain⟨sb,_,AS,JH,bD,k,_⟩:=nB hb;have c:=jO sa;have ay:=jO sb
 have eh:∀n,bN (2^27) n->∀H,Sg 97 [.agg [.bJ ta 3 (bR a)],.agg [.bJ tb 3 (bR b)],.agg (cG n)] H (.ret (.bool (decide (n≠V0)&&oJ a b n))) H:=fun n A H=>aQr ad ab na nb A0 A0 ba k A A1 A1 A1 H
 have vX:∀(T:List (List AV)),T=(dY a).map (cX (fU a))++(dY b).map (cX (fU b))->T.length<=128/\(∀i,i<T.length->∃n,(T.getD i []).take 3=cG n/\(T.getD i []).length=5/\n≠V0/\IsD a b n/\bN (2^27) n)/\∀n d,(oM (fun i=>a.getD i V0) a.length n d\/oM (fun i=>b.getD i V0) b.length n d)->∃i,i<T.length/\(T.getD i []).take 3=cG n:=by
  intro T hT
  have p:∀x,x∈T->∃n,x.take 3=cG n/\x.length=5/\n≠V0/\IsD a b n/\bN (2^27) n:=fun x hx=>by
   rw[hT,Ar] at hx
   rcases hx with hx|hx
   . obtain⟨q,D,rfl⟩:=Bb.1 hx;have L:=(c.fl.mem q).1 D;exact⟨q.1,rfl,rfl,L.Ru.hn,.inl ⟨q.2,L⟩,sA na L⟩
   obtain⟨q,D,rfl⟩:=Bb.1 hx;have L:=(ay.fl.mem q).1 D;exact⟨q.1,rfl,rfl,L.Ru.hn,.inr (.inl ⟨q.2,L⟩),sA nb L⟩
  have ak:∀x,x∈T->∃i,i<T.length/\T.getD i []=x:=fun x hx=>by obtain⟨i,F,h⟩:=Cz hx;exact⟨i,F,by simp[List.getD,F,h]⟩
  refine⟨by rw[hT];simp;omega,fun i F=>?_,fun n d h=>?_⟩
  . have :T.getD i []=T[i]:=by simp[List.getD,F]
    rw[this];exact p _ (Ac F)
  rcases h with h|h
  . obtain⟨i,F,e⟩:=ak (cX (fU a) (n,d)) (by rw[hT,Ar];exact .inl (Bb.2 ⟨_,(c.fl.mem (n,d)).2 h,rfl⟩));exact⟨i,F,by rw[e];rfl⟩
  obtain⟨i,F,e⟩:=ak (cX (fU b) (n,d)) (by rw[hT,Ar];exact .inr (Bb.2 ⟨_,(ay.fl.mem (n,d)).2 h,rfl⟩));exact⟨i,F,by rw[e];rfl⟩
 refine So bQe (by simp only[sf,cT ad,cT ab]) ?_ H;unfold W32;dsimp only;have al:((dY b).map (cX (fU b))).isEmpty=false:=by simpa using AS
 obtain⟨bb,bc,ar⟩:=vX _ rfl;refine bP ?_;refine Ty ?_;refine bQ ?_;generalize G:((aA.mk 0 .nil).alloc _).alloc _=I;have m0:=Kv (i:=0) G;have m1:=Kv (i:=1) G;have mn:I.next=2:=by subst G;simp only[zI,seval]
 have mf:bH I:=by subst G;exact((bH.nil 0).alloc _).alloc _
 clear G;refine bP ?_;simp only[↓zP,zJ,seval,m0];refine fC (fa _) ?_;refine Tz ?_;refine bQ ?_;have oA:Own ((I.alloc .tok).alloc .tok) 5 (.bJ (I.next+2) 5 ((dY a).map (cX (fU a)))) ((dY a).map (cX (fU a))):=.inr ⟨I.next,rfl,by simp only[aA.bK];omega,by rw[aA.aI,if_neg Zao,aA.aI,if_pos rfl]⟩;obtain⟨HB,z1,z2,C,z4,z5⟩:=Has.push (.inr oA) (ys:=(dY b).map (cX (fU b))) (bytes:=56) al (by rw[An] at bb;omega);have aj:((I.alloc .tok).alloc .tok).get 0=some (.cells [.bJ ta 3 (bR a)] false):=by rw[aA.aI,if_neg Zao,aA.aI,if_neg A0];exact m0
 have ag:(I.alloc .tok).get 1=some (.cells [.bJ tb 3 (bR b)] false):=by rw[aA.aI,if_neg A0];exact m1
 have az:((I.alloc .tok).alloc .tok).get 1=some (.cells [.bJ tb 3 (bR b)] false):=by rw[aA.aI,if_neg Zao];exact ag
 have b0:=(z4 0 Zao (by rw[aj];simp)).trans aj;have R:=(z4 1 Zao (by rw[az];simp)).trans az;have bf:=z5 ((mf.alloc _).alloc _);have bn:2<=HB.next:=by rw[z2];simp only[aA.bK];omega
 generalize c5:I.alloc .tok=bz at *;refine bP ?_;simp only[↓zP,zJ,seval,ag];refine fC (fb _) ?_;refine Tz ?_;rw[show ∀(h:aA) (x:List (List AV)) (t:Nat),dJ h 5 (.bJ t 5 x)=some x from fun _ _ _=>rfl];simp only[z1,bX,seval,zI];refine bQ ?_;generalize (dY a).map (cX (fU a))++(dY b).map (cX (fU b))=T at *;generalize bz.next+1+2=tg at *;clear z1 z2 C z4 z5 fa fb al oA;refine aM fun K hK=>?_;refine bP ?_;refine Tz ?_;refine bQ ?_;refine cL [] (fun i _ H'=>H'=HB/\∀j,j<i->∀n,(T.getD j []).take 3=cG n->oJ a b n=false) 0 T.length (Bk _) A0 A1 ?_ ?_ ?_ ?_ ?_
 . exact zq
 . exact ZbB
 . rintro i f H1 o F E e1 _;have f5:f 5=.bJ tg 5 T:=E 5 rfl;simp only[↓zP,zG,seval,e1,f5];exact tB A0
 . rintro i f H1 o F E e1 ⟨rfl,CU⟩;have s:f 2=.ref 0 0:=E 2 rfl;have f3:f 3=.ref 1 0:=E 3 rfl;have f5:f 5=.bJ tg 5 T:=E 5 rfl;obtain⟨n,O,t5,ZY,hD,b3⟩:=bc i F;have a6:=eh n b3;rw[Ag ZY,Dk] at a6;have bC:3<=(T.getD i []).length:=by omega
   refine aJ ?_;refine bP ?_;refine Dz ?_;simp only[↓zP,zJ,seval,zD,s,f3,f5,e1,b0,R,aD,F,O,t5];refine gH (a6 _) ?_;simp only[↓zP,zJ,seval,zD];refine bQ ?_;by_cases M:oJ a b n=true
   . refine Wy ?_;refine Rx ?_;rw[show lP a b=true from nS.2 ⟨n,hD,M⟩];rfl
   have CV:oJ a b n=false:=(by simpa using M);simp only[↓zP,zG,seval,CV];refine⟨trivial,fun j Y n' Le=>?_⟩;by_cases b4:j=i
   . subst b4
     have :n'=n:=by rw[O] at Le;obtain⟨x,y,z⟩:=n;obtain⟨x',J,z'⟩:=n';simp only[cG,List.cons.injEq,AV.int.injEq,Ju,and_true] at Le;obtain⟨h1,h2,W⟩:=Le;subst h1;subst h2;subst W;rfl
     rw[this];exact CV
   exact CU j A0 n' Le
 rintro f H1 E ⟨rfl,CU⟩;have s:f 2=.ref 0 0:=E 2 rfl;have f3:f 3=.ref 1 0:=E 3 rfl;refine Tx ?_;apply hK;clear hK K;refine bP ?_;refine Wz ?_;refine fW ?_;refine Wz ?_;refine bQ ?_;refine aM fun K hK=>?_;refine bP ?_;refine Tz ?_;refine bQ ?_;have aK:∀i (h:i<U.length),(bR U).getD i []=cG U[i]:=fun i h=>cH h;have aF:∀i (h:i<l.length),(bR l).getD i []=cG l[i]:=fun i h=>cH h;have aq:(bR U).length=U.length:=aU _;have an:(bR l).length=l.length:=aU _;refine cL [] (fun i _ H'=>H'.get 0=some (.cells [.bJ ta 3 (bR a)] false)/\H'.get 1=some (.cells [.bJ tb 3 (bR b)] false)/\2<=H'.next/\bH H'/\∀u∈U.take i,∀w∈l,(decide (aC.aY u w≠V0)&&oJ a b (aC.aY u w))=false) 0 U.length (Bk _) A0 A1 ?_ ?_ ?_ ?_ ?_
 . exact zq
 . exact⟨b0,R,bn,bf,fun u hu=>by simp at hu⟩
 . rintro i g H2 o F N P _;have g8:g 8=.bJ 0 3 (bR U):=N 8 rfl;simp only[↓zP,zG,seval,P,g8,aq];exact tB A0
 . rintro i g H2 o F N P ⟨c0,c1,cn,cf,S⟩;have g2:g 2=.ref 0 0:=by rw[N 2 rfl];simp only[zB,seval];exact s
   have g3:g 3=.ref 1 0:=(by rw[N 3 rfl];simp only[zB,seval];exact f3);have g8:g 8=.bJ 0 3 (bR U):=N 8 rfl;have g9:g 9=.bJ 0 3 (bR l):=N 9 rfl;have b6:=aK i F;have aN:=(mU _).1 (Ac F);have nu:=nU _ (Ac F)
   have m:∀y,y∈U.take (i+1)->y∈U.take i\/y=U[i]:=fun y Q=>by
    rw[Ao,Ar] at Q
    rcases Q with h|h
    . exact .inl h
    simp[F] at h;exact .inr h
   generalize U[i]=u at *;refine aJ ?_;refine bP ?_;refine Tz ?_;refine bQ ?_;refine cL [] (fun j _ H'=>H'.get 0=some (.cells [.bJ ta 3 (bR a)] false)/\H'.get 1=some (.cells [.bJ tb 3 (bR b)] false)/\2<=H'.next/\bH H'/\∀w∈l.take j,(decide (aC.aY u w≠V0)&&oJ a b (aC.aY u w))=false) 0 l.length (Bk _) A0 A1 ?_ ?_ ?_ ?_ ?_
   . exact zq
   . exact⟨c0,c1,cn,cf,fun w hw=>by simp at hw⟩
   . rintro j g' X o Y gA B _;have ae:g' 9=.bJ 0 3 (bR l):=(by rw[gA 9 rfl];simp only[zB,seval];exact g9);simp only[↓zP,zG,seval,B,ae,an];exact tB A0
   . rintro j g' X o Y gA B ⟨Z,d1,dn,df,a7⟩;have br:g' 2=.ref 0 0:=(by rw[gA 2 rfl];simp only[zB,seval];exact g2);have bl:g' 3=.ref 1 0:=(by rw[gA 3 rfl];simp only[zB,seval];exact g3);have bk:g' 8=.bJ 0 3 (bR U):=(by rw[gA 8 rfl];simp only[zB,seval];exact g8);have ae:g' 9=.bJ 0 3 (bR l):=(by rw[gA 9 rfl];simp only[zB,seval];exact g9);have bs:g' 10=.int .i64 i:=(by rw[gA 10 rfl];simp only[zB,seval];exact P);have b5:=aF j Y;have aE:=(mW _).1 (Ac Y);have nw:=nW _ (Ac Y)
     have bt:∀y,y∈l.take (j+1)->y∈l.take j\/y=l[j]:=fun y Q=>by
      rw[Ao,Ar] at Q
      rcases Q with h|h
      . exact .inl h
      simp[Y] at h;exact .inr h
     generalize l[j]=w at *;have af:=iQ nu nw;have b9:=aAm nu nw A1 A1;have b2:=ju af A1;have a6:=eh (aC.aY u w) af
     have vU:(decide (aC.aY u w≠V0)&&oJ a b (aC.aY u w))=true->lP a b=true:=fun h=>by rw[Ak,Br] at h;exact nS.2 ⟨_,.inr (.inr ⟨u,w,aN,aE,rfl,h.1⟩),h.2⟩
     generalize aO:(decide (aC.aY u w≠V0)&&oJ a b (aC.aY u w))=sv at *;have d3:∀v:aC.V,(cG v).take 3=cG v:=fun _=>rfl;refine aJ ?_;refine bP ?_;refine fT 1 A1 df.vm fun H4 n4 e4=>?_;simp only[↓zP,zJ,seval,zD,bk,ae,bs,B,aD,aq,an,F,Y,b6,b5,oL (aT u),oL (aT w)];refine gH (b9 _) ?_;simp only[seval];refine gH (b2 _) ?_;generalize b7:aC.aY u w=cv at *;have :=oL (aT cv);refine Wy ?_;refine bQ ?_;have q0:¬(0=X.next):=A0;have q1:¬(1=X.next):=A0;generalize G:(H4.set X.next _).set X.next _=r;have y0:r.get 0=some (.cells [.bJ ta 3 (bR a)] false):=(by subst G;rw[aA.aH,if_neg q0,aA.aH,if_neg q0,e4];exact Z);have y1:r.get 1=some (.cells [.bJ tb 3 (bR b)] false):=(by subst G;rw[aA.aH,if_neg q1,aA.aH,if_neg q1,e4];exact d1);have y2:=Kz G;have yn:2<=r.next:=by subst G;simp only[aA.aZ];omega
     have yf:bH r:=fun j Y=>by subst G;simp only[aA.aZ] at Y;rw[aA.aH,if_neg A0,aA.aH,if_neg A0,e4];exact df j A0
     clear G;generalize X.next=r5 at *;refine bP ?_;simp only[↓zP,zJ,seval,br,bl,y0,y1,y2,oL (aT cv)];refine fC (a6 _) ?_;refine Tz ?_;refine bQ ?_
     cases sv with
     |true=>refine Tz ?_;refine Rx ?_;rw[vU rfl];rfl
     |false=>
      refine Tz ?_;refine⟨y0,y1,yn,yf,fun y Q=>?_⟩
      rcases bt y Q with h|rfl
      . exact a7 y h
      rw[b7];exact aO
   rintro g' X gA ⟨Z,d1,dn,df,a7⟩;rw[Aq] at a7;refine Tz ?_;refine⟨Z,d1,dn,df,fun y Q=>?_⟩
   rcases m y Q with h|rfl
   . exact S y h
   exact a7
 rintro g H2 N ⟨c0,c1,cn,cf,S⟩;rw[Aq] at S;refine Tx ?_;apply hK;clear hK K;refine Tz ?_;refine Rx ?_
 have :lP a b=false:=by
  rw[<-Ew,nS];rintro⟨n,A,M⟩
  rcases A with ⟨d,h⟩|⟨d,h⟩|⟨u,w,hu,hw,rfl,ZY⟩
  . obtain⟨i,F,e⟩:=ar n d (.inl h);rw[CU i F n e] at M;cases M
  . obtain⟨i,F,e⟩:=ar n d (.inr h);rw[CU i F n e] at M;cases M
  have :=S u ((mU u).2 hu) w ((mW w).2 hw);rw[Ag ZY,M] at this;cases this
 rw[this];rfl
theorem aGo:∀c:Fin 256,fk c.1=((decide (97<=c.1)&&decide (c.1<=122))||(decide (65<=c.1)&&decide (c.1<=90))):=by decide
theorem jt{c:Nat}(R:c<256)(H:aA):Sg 205 [.int .u8 c] H (.ret (.bool (fk c))) H:=by
 refine So bIh Zac ?_ H;unfold aWc;dsimp only;have U:=aGo ⟨c,R⟩;simp only at U;rw[U];have S:decide ((c:Int)≥97)=decide (97<=c):=by rw[Aw];omega
 have e:decide ((c:Int)<=122)=decide (c<=122):=by rw[Aw];omega
 have d3:decide ((c:Int)≥65)=decide (65<=c):=by rw[Aw];omega
 have x:decide ((c:Int)<=90)=decide (c<=90):=by rw[Aw];omega
 generalize decide (97<=c)=A at *;generalize decide (c<=122)=B at *;generalize decide (65<=c)=C at *;generalize decide (c<=90)=D at *
 cases A with
 |true=>
  cases B with
  |true=>simp only[↓zP,zJ,seval,S,e,qA];refine Rx ?_;rfl
  |false=>
   cases C with
   |true=>refine Wz ?_;refine Rx ?_;rfl
   |false=>refine Wz ?_;refine Rx ?_;rfl
 |false=>
  cases C with
  |true=>refine Wz ?_;refine Rx ?_;simp[nN]
  |false=>refine Wz ?_;refine Rx ?_;simp[nN]
theorem Yn(s:List UInt8)(Q:s.length<2^63)(H:aA):Sg 120 [.str s] H (.ret (.bool (rN s))) H:=by
 refine So bGq Zac ?_ H;unfold aUp;dsimp only;have S:decide ((s.length:Int)<1)= !decide (1<=s.length):=by rw[<-Ij,Aw];omega
 have z:decide ((s.length:Int)>32)= !decide (s.length<=32):=by rw[<-Ij,Aw];omega
 refine bP ?_;refine Tz ?_;refine fW ?_
 cases O:decide (1<=s.length) with
 |false=>rw[O] at S;refine Wz ?_;refine Rx ?_;unfold rN;rw[O];simp[nN]
 |true=>
 rw[O] at S
 cases Z:decide (s.length<=32) with
 |false=>rw[Z] at z;refine Wz ?_;refine Rx ?_;unfold rN;rw[Z];simp[nN]
 |true=>
 rw[Z] at z;have g:=Dv Z;refine Wz ?_;refine bQ ?_;refine aM fun K hK=>?_;refine Tz ?_;refine cL [] (fun i vs H'=>∀k,k<i->IU k (s.getD k 0).toNat=true) 0 s.length (Bk _) A0 A1 ?_ ?_ ?_ ?_ ?_
 . exact zq
 . exact fun k E=>absurd E (Al _)
 . rintro i f H1 o F E T _;have A:f 0=.str s:=E 0 rfl;simp only[↓zP,zG,seval,T,A];exact tB A0
 . rintro i f H1 o F E T r;have A:f 0=.str s:=E 0 rfl
   have t:s[i]?=some (s.getD i 0):=(by simp[List.getD,F]);have p:(s.getD i 0).toNat<256:=(s.getD i 0).toNat_lt
   have W:IU i (s.getD i 0).toNat=true->∀k,k<i+1->IU k (s.getD k 0).toNat=true:=fun h k E=>by
    by_cases e:k=i
    . subst e;exact h
    exact r k A0
   have a:IU i (s.getD i 0).toNat=false->rN s=false:=fun h=>by
    have :(List.range s.length).all (fun k=>IU k (s.getD k 0).toNat)=false:=by rw[Ie];exact⟨i,Ax.2 F,by rw[h];decide⟩
    unfold rN;rw[this];rfl
   have l:=jt p;refine aJ ?_;refine aM fun D n=>?_;simp only[↓zP,zG,seval,T,A,aD,t];refine fC (l _) ?_;generalize X:s.getD i 0=b at *;generalize R:b.toNat=c at *;have x:((i:Int)==0)=decide (i=0):=by rw[Ii,Aw];omega
   have d:((c:Int) != 95)= !decide (c=95):=by have :((c:Int)==95)=decide (c=95):=(by rw[Ii,Aw];omega);rw[bne,this]
   have j:decide ((c:Int)<48)= !decide (48<=c):=Zca;have q:decide ((c:Int)>57)= !decide (c<=57):=Zca;unfold IU at W a;generalize fk c=m at *;generalize decide (i=0)=y at *;generalize decide (c=95)=w at *;generalize decide (48<=c)=v at *;generalize decide (c<=57)=u at *
   cases m with
   |true=>simp only[↓zP,zJ,seval,qA];apply n;clear n D;refine Tz ?_;exact W A2
   |false=>
    cases y with
    |true=>simp only[↓zP,zJ,seval,T,x,qA];apply n;clear n D;refine Tz ?_;refine Rx ?_;rw[a A2];rfl
    |false=>
     cases w with
     |true=>refine Wy ?_;apply n;clear n D;refine Tz ?_;exact W A2
     |false=>
      cases v with
      |false=>refine Wy ?_;apply n;clear n D;refine Tz ?_;refine Rx ?_;rw[a A2];rfl
      |true=>
       cases u with
       |false=>refine Wy ?_;apply n;clear n D;refine Tz ?_;refine Rx ?_;rw[a A2];rfl
       |true=>refine Wy ?_;apply n;clear n D;refine Tz ?_;exact W A2
 rintro f H1 E r
 have W:(List.range s.length).all (fun k=>IU k (s.getD k 0).toNat)=true:=by rw[Bh];exact fun k E=>r k (Ax.1 E)
 refine Tx ?_;apply hK;clear hK K;refine Tz ?_;refine Rx ?_;unfold rN;rw[W,O,Z];rfl
theorem Xa:vP v=true↔∃c,c<3/\(v.at c>4096\/v.at c< -4096):=by
 unfold vP;simp only[Ea,Br];constructor
 . rintro(h|h|h)
   . exact⟨0,by decide,h⟩
   . exact⟨1,by decide,h⟩
   exact⟨2,by decide,h⟩
 rintro⟨c,R,h⟩
 match c,R with
 |0,_=>exact .inl h
 |1,_=>exact .inr (.inl h)
 |2,_=>exact .inr (.inr h)
theorem aBd(q:Nat.blt tag 2=true){l:List aC.V}(Q:l.length<2^30)(H:aA):
 Sg 121 [.agg [.bJ tag 3 (bR l)]] H (.ret (.bool (!l.any vP))) H:=by
 refine So bGr ZaJ ?_ H;unfold aUq;dsimp only;have d:(bR l).length=l.length:=aU _;refine Ty ?_;refine cL [] (fun i _ H'=>H'.get 0=some (.cells [.bJ tag 3 (bR l)] false)/\∀v∈l.take i,vP v=false) 0 l.length (Bk _) A0 A1 ?_ ?_ ?_ ?_ ?_
 . exact zq
 . exact⟨by simp only[zI,seval],fun v J=>by simp at J⟩
 . rintro i f H1 o F E T ⟨g0,_⟩;have b:f 1=.ref 0 0:=E 1 rfl;simp only[↓zP,zJ,seval,T,b,g0,d];exact tB A0
 . rintro i f H1 o F E T ⟨g0,a⟩;have b:f 1=.ref 0 0:=E 1 rfl;have t:=cH F;have s:=Ac F
   have C:∀v,v∈l.take (i+1)->v∈l.take i\/v=l[i]:=fun v J=>by
    exact Zam
   generalize l[i]=x at *;refine aJ ?_;refine bP ?_;refine Tz ?_;refine bQ ?_;refine cL [] (fun j _ H'=>H'.get 0=some (.cells [.bJ tag 3 (bR l)] false)/\∀c,c<j->¬(x.at c>4096)/\¬(x.at c< -4096)) 0 3 (Bk _) A1 A1 ?_ ?_ ?_ ?_ ?_
   . exact zq
   . exact⟨g0,fun c R=>absurd R (Al _)⟩
   . rintro j g w A Y N P r;simp only[↓zP,zG,seval,P];exact tB A0
   . rintro j g w A Y N P ⟨k,R⟩;have B:g 1=.ref 0 0:=(by rw[N 1 rfl];simp only[zB,seval];exact b);have u:g 3=.int .i64 i:=(by rw[N 3 rfl];simp only[zB,seval];exact T);have z:(x.at j>4096\/x.at j< -4096)->l.any vP=true:=fun h=>Cj.2 ⟨x,s,Xa.2 ⟨j,Y,h⟩⟩;have L:1<=(List.drop j (cG x)).length:=(by rw[Gi,aT];omega);have p:(List.drop j (cG x)).getD 0 aB=.int .i64 (x.at j):=(by rw[<-iC x Y];simp[List.getD]);refine aJ ?_;refine aM fun D n=>?_;by_cases y:x.at j>4096
     . have S:=Ag y;simp only[↓zP,zJ,seval,P,B,u,k,aD,aU,F,t,Y,L,p,S];apply n;clear n D;refine Tz ?_;refine Rx ?_;rw[z (.inl y)];rfl
     have S:=Ab y;by_cases m:x.at j< -4096
     . have e:=Ag m;simp only[↓zP,zJ,seval,P,B,u,k,aD,aU,F,t,Y,L,p,S,e];apply n;clear n D;refine Tz ?_;refine Rx ?_;rw[z (.inr m)];rfl
     have e:=Ab m;simp only[↓zP,zJ,seval,P,B,u,k,aD,aU,F,t,Y,L,p,S,e];apply n;clear n D;refine Tz ?_;refine⟨k,fun c h=>?_⟩;by_cases G:c=j
     . subst G;exact⟨y,m⟩
     exact R c A0
   rintro g w N ⟨k,R⟩;refine Tx ?_;refine⟨k,fun v J=>?_⟩
   rcases C v J with h|rfl
   . exact a v h
   rw[<-Ew,Xa];rintro⟨c,O,Z⟩;have :=R c O;omega
 rintro f H1 E ⟨g0,a⟩;rw[Aq] at a;refine Tx ?_;refine Rx ?_
 have :l.any vP=false:=by rw[Eh];exact fun v J=>by rw[a v J];decide
 rw[this];rfl
theorem ph(n:aC.V):∀(l:List aC.V) (m:Int),wX (aC.neg n) (-m) l= -(wV n m l)
 |[],m=>rfl
 |v::l,m=>by
  have z:=ph n l;unfold wX wV at z ⊢
  have :(if aC.dot (aC.neg n) v< -m then aC.dot (aC.neg n) v else -m)= -(if aC.dot n v>m then aC.dot n v else m):=by rw[oF];omega
  grind
theorem oh(n:aC.V):∀(l:List aC.V) (m:Int),wV (aC.neg n) (-m) l= -(wX n m l)
 |[],m=>rfl
 |v::l,m=>by
  have z:=oh n l;unfold wX wV at z ⊢
  have :(if aC.dot (aC.neg n) v> -m then aC.dot (aC.neg n) v else -m)= -(if aC.dot n v<m then aC.dot n v else m):=by rw[oF];omega
  grind
theorem Nd(a b:List aC.V)(n:aC.V):oJ a b n=oJ b a n:=by grind[oJ]
theorem aJi(a b:List aC.V)(n:aC.V):oJ a b (aC.neg n)=oJ a b n:=by simp[oJ,oF,ph,oh,Bool.or_comm,Aw]
theorem XN{a b:List aC.V}(h:lP a b=true):lP b a=true:=by
 obtain⟨n,r,M⟩:=nS.1 h
 rcases r with hF|hF|⟨u,w,K,L,rfl,A⟩
 . exact nS.2 ⟨n,.inr (.inl hF),by grind[Nd]⟩
 . exact nS.2 ⟨n,.inl hF,by grind[Nd]⟩
 refine nS.2 ⟨aC.neg (aC.aY u w),.inr (.inr ⟨w,u,L,K,(bh u w).symm,fun e=>Vg A e⟩),?_⟩
 grind[aJi,Nd]
theorem xj(a b:List aC.V):lP a b=lP b a:=by rw[Dc];exact⟨XN,XN⟩
variable{name:List UInt8}
theorem jg(tG:name.length<2^63){ps:List (AV×List aC.V)}(tI:∀p∈ps,qO p)(Q:∀p∈ps,p.2.length<2^30)(tH:ps.length<2^30)(M C L r1:Int)(H:aA):
 Sg 47 [.agg (eT name (.bJ 0 1 (qH ps)) M C L r1)] H (.ret (.int .i64 (oE name (ps.map (·.2)) M C L r1))) H:=by
 have uK:cW [AV.agg (eT name (.bJ 0 1 (qH ps)) M C L r1)]=true:=by simp only[sf,eT,MH tI]
 refine So bKr uK ?_ H;have CZ:(ps.map (·.2)).length=ps.length:=Ah _;unfold W47;dsimp only;have dt:(qH ps).length=ps.length:=Ah _;have S:decide ((ps.length:Int)<1)=decide (ps.length<1):=by rw[Aw];omega
 have d2:decide ((ps.length:Int)>8)=decide (8<ps.length):=by rw[Aw];omega
 refine bP ?_;simp only[↓zP,zJ,seval,eT];refine bQ ?_;generalize G:(aA.mk 0 .nil).alloc _=HA;have g0:=Kv (i:=0) G;clear G;have aF:=Yn name tG;refine bP ?_;refine Wz ?_
 cases J:rN name with
 |false=>refine Ty ?_;refine Rx ?_;unfold oE;rw[if_pos J];rfl
 |true=>
 refine Ty ?_;refine fW ?_
 cases O:decide (ps.length<1) with
 |true=>rw[O] at S;refine Wz ?_;refine Rx ?_;unfold oE;rw[if_neg ZaV,if_pos (.inl (by rw[CZ];exact Dv O))];rfl
 |false=>
 rw[O] at S
 cases Z:decide (8<ps.length) with
 |true=>rw[Z] at d2;refine Wz ?_;refine Rx ?_;unfold oE;rw[if_neg ZaV,if_pos (.inr (by rw[CZ];exact Dv Z))];rfl
 |false=>
 rw[Z] at d2
 have x:Zw M C L r1=true->oE name (ps.map (·.2)) M C L r1=1:=fun X=>by unfold oE;rw[if_neg ZaV,if_neg Zb2,if_pos X]
 have A:Zw M C L r1=false->oE name (ps.map (·.2)) M C L r1=uP (ps.map (·.2)):=fun X=>by unfold oE;rw[if_neg ZaV,if_neg Zb2,if_neg (by rw[X];decide)]
 unfold Zw at x A;refine Wz ?_;refine bQ ?_;refine bW fun f N=>?_;have b:=Kf (i:=1) N;clear N;refine aM fun K hK=>?_
 cases de:decide (M<1) with
 |true=>rw[de] at x;refine Wy ?_;refine Rx ?_;rw[x A2];rfl
 |false=>
 cases n:decide (C<M) with
 |true=>rw[n] at x;refine Wy ?_;refine Rx ?_;rw[x A2];rfl
 |false=>
 cases ak:decide (C>1099511627776) with
 |true=>rw[ak] at x;refine Wy ?_;refine Rx ?_;rw[x A2];rfl
 |false=>
 cases aj:decide (L<0) with
 |true=>rw[aj] at x;refine Wy ?_;refine Rx ?_;rw[x A2];rfl
 |false=>
 cases ag:decide (r1<L) with
 |true=>rw[ag] at x;refine Wy ?_;refine Rx ?_;rw[x A2];rfl
 |false=>
 cases af:decide (r1>4000) with
 |true=>rw[af] at x;refine Wy ?_;refine Rx ?_;rw[x A2];rfl
 |false=>
 rw[de,n,ak,aj,ag,af] at A;rw[A rfl] at hK ⊢;clear x A;refine Wy ?_;apply hK;clear hK K;refine bW fun g N=>?_;have g1:=Ks N b;clear N b f
 have hF:∀i (F:i<ps.length),(∀j (Y:j<i),gD (ps[j]'(Bt Y F)).2=0)->gD ps[i].2≠0->uP (ps.map (·.2))=gD ps[i].2:=fun i F O Z=>by have :=RO (ls:=ps.map (·.2)) (i:=i) (by rw[CZ];exact F) (fun j Y=>by rw[Cr];exact O j Y) (by rw[Cr];exact Z);rw[this,Cr]
 generalize QL:[AV.str name,.bJ 0 1 (qH ps),.int .i64 M,.int .i64 C,.int .i64 L,.int .i64 r1]=bc at *;have d:bc.getD 1 aB=.bJ 0 1 (qH ps):=by subst QL;rfl
 have u:bc.length=6:=by subst QL;rfl
 refine aM fun K hK=>?_;refine bP ?_;refine Tz ?_;refine bQ ?_;refine cL [] (fun i _ H'=>H'=HA/\∀j (Y:j<i) (U:j<ps.length),gD ps[j].2=0) 0 ps.length (Bk _) A0 A1 ?_ ?_ ?_ ?_ ?_
 . exact zq
 . exact ZbB
 . rintro i f H1 o F E T ⟨rfl,_⟩;have b:f 1=.ref 0 0:=by rw[E 1 rfl];simp only[zB,seval];exact g1
   simp only[↓zP,zJ,seval,T,b,g0,u,d,dt];exact tB A0
 . rintro i f H1 o F E T ⟨rfl,r⟩;have b:f 1=.ref 0 0:=by rw[E 1 rfl];simp only[zB,seval];exact g1
   have t:(qH ps).getD i []=[ps[i].1]:=eO F;have m:=tI _ (Ac F);have U:=Q _ (Ac F);have a7:=hF i F (fun j Y=>r j Y (Bt Y F))
   have yc:gD ps[i].2=0->∀j (Y:j<i+1) (U:j<ps.length),gD ps[j].2=0:=fun h j Y U=>by
    exact ZbO
   generalize ps[i]=p at *;obtain⟨pv,l⟩:=p;simp only at t m U a7 yc;have R:=RR m U;simp only at R;refine aJ ?_;refine bP ?_;refine Wy ?_;refine bQ ?_;refine aM fun D cY=>?_;by_cases B:mS l=0
   . have X:(mS l != 0)=false:=(by simp[B]);obtain⟨_,_,_,_,aO,Mg,aN⟩:=nB B
     obtain⟨rfl⟩:pv=.bJ 0 3 (bR l):=by
      rcases m with ⟨_,h⟩|h
      . exact absurd h Mg
      exact h
     have an:=aBd (tag:=0) rfl U;refine Ww ?_;apply cY;clear cY D;simp only[↓zP,zJ,seval,T,b,g0,u,d,aD,dt,F,t];refine fC (an _) ?_
     cases ad:l.any vP with
     |true=>have VO:gD l=1:=(by unfold gD;rw[if_neg (by simp[B]),ad];rfl);refine Ty ?_;refine Rx ?_;rw[a7 (by rw[VO];decide),VO];rfl
     |false=>have ay:gD l=0:=(by unfold gD;rw[if_neg (by simp[B]),ad];rfl);refine Ty ?_;exact⟨trivial,yc ay⟩
   have X:(mS l != 0)=true:=(by simp[B]);have ab:gD l=mS l:=(by unfold gD;rw[if_pos B]);simp only[↓zP,zG,seval,X];refine Rx ?_;rw[a7 (by rw[ab];exact B),ab];rfl
 rintro f H1 E ⟨rfl,r⟩;have W:∀j (U:j<ps.length),gD ps[j].2=0:=fun j U=>r j U U
 have hR:=wO (ls:=ps.map (·.2)) (fun l U=>by
  obtain⟨p,m,rfl⟩:=Bb.1 U;obtain⟨j,Y,rfl⟩:=Cz m
  exact W j Y)
 have QV:∀j (U:j<ps.length),mS ps[j].2=0/\ps[j].1=.bJ 0 3 (bR ps[j].2)/\∀v∈ps[j].2,bN (2^12) v:=fun j U=>by
  obtain⟨o,ar⟩:=Vr (W j U);refine⟨o,?_,fun v J=>?_⟩
  . rcases tI _ (Ac U) with ⟨_,h⟩|h
    . rw[h,KX] at o;cases o
    exact h
  have :=ar v J;simp only[vP,Iq,Ce] at this;unfold bN;omega
 have b:f 1=.ref 0 0:=by rw[E 1 rfl];simp only[zB,seval];exact g1
 refine Tx ?_;apply hK;clear hK K;refine aM fun K hK=>?_;refine bP ?_;refine Tz ?_;refine bQ ?_;refine cL [] (fun i _ H'=>H'=H1/\∀a k (I:a<i) (U:a<ps.length) (E:k<a),lP ps[a].2 (ps[k]'(Bt E U)).2=true) 0 ps.length (Bk _) A0 A1 ?_ ?_ ?_ ?_ ?_
 . exact zq
 . exact⟨rfl,fun a k I=>absurd I (Al _)⟩
 . rintro i s w o F fI P ⟨rfl,_⟩;have u1:s 1=.ref 0 0:=by rw[fI 1 rfl];simp only[zB,seval];exact b
   simp only[↓zP,zJ,seval,P,u1,g0,u,d,dt];exact tB A0
 . rintro i s w o F fI P ⟨rfl,y⟩;have u1:s 1=.ref 0 0:=by rw[fI 1 rfl];simp only[zB,seval];exact b
   have t:(qH ps).getD i []=[ps[i].1]:=eO F;obtain⟨uV,rT,YA⟩:=QV i F
   have yc:(∀k (E:k<i),lP ps[i].2 (ps[k]'(Bt E F)).2=true)->∀a k (I:a<i+1) (U:a<ps.length) (E:k<a),lP ps[a].2 (ps[k]'(Bt E U)).2=true:=fun h a k I U E=>by
    by_cases e:a=i
    . subst e;exact h k E
    exact y a k A0 U E
   have aq:∀k (E:k<i),lP ps[i].2 (ps[k]'(Bt E F)).2=false->uP (ps.map (·.2))=150:=fun k E h=>by have :=JS (ls:=ps.map (·.2)) (i:=i) (k:=k) (by rw[CZ];exact F) E (by rw[Cr,Cr];exact h);rw[hR,this];rfl
   rw[rT] at t;refine aJ ?_;refine bP ?_;refine Tz ?_;refine bQ ?_;refine cL [] (fun k vs H'=>H'=w/\∀a (I:a<k) (U:a<i),lP ps[i].2 (ps[a]'(Bt U F)).2=true) 0 i (Bk _) A0 A1 ?_ ?_ ?_ ?_ ?_
   . exact zq
   . exact⟨rfl,fun a I=>absurd I (Al _)⟩
   . rintro k c H3 o dm gA e3 _;have w5:c 5=.int .i64 i:=Zbq;simp only[↓zP,zG,seval,e3,w5];exact tB A0
   . rintro k c H3 o dm gA e3 ⟨rfl,a6⟩;have w1:c 1=.ref 0 0:=(by rw[gA 1 rfl];simp only[zB,seval];exact u1);have w5:c 5=.int .i64 i:=Zbq;have z:=Bt dm F;obtain⟨Ol,CM,al⟩:=QV k z;have Xu:(qH ps).getD k []=[ps[k].1]:=eO z;rw[CM] at Xu;have hd:=Vu (ta:=0) (tb:=0) rfl rfl Ol uV al YA
     have aE:lP ps[i].2 ps[k].2=true->∀a (I:a<k+1) (U:a<i),lP ps[i].2 (ps[a]'(Bt U F)).2=true:=fun h a I U=>by
      by_cases e:a=k
      . subst e;exact h
      exact a6 a A0 U
     have az:=aq k dm;rw[xj] at hd;generalize ps[k]=q at *;generalize aK:ps[i]=p at *;refine aJ ?_;refine bP ?_;refine Dz ?_;simp only[↓zP,zJ,seval,zD,w1,w5,e3,g0,u,d,aD,dt,F,z,t,Xu];refine gH (hd _) ?_;simp only[↓zP,zJ,seval,zD];refine bQ ?_
     cases ae:lP p.2 q.2 with
     |true=>refine Ty ?_;exact⟨trivial,aE ae⟩
     |false=>refine Ty ?_;refine Rx ?_;rw[az ae];rfl
   rintro c H3 gA ⟨rfl,a6⟩;refine Tx ?_;exact⟨trivial,yc fun k E=>a6 k E E⟩
 rintro s w fI ⟨rfl,y⟩
 have :=ON (ls:=ps.map (·.2)) (fun a k I E=>by
  rw[Cr,Cr]
  exact y a k (by rwa [CZ] at I) (by rwa [CZ] at I) E)
 refine Tx ?_;apply hK;clear hK K;refine Tz ?_;refine Rx ?_;rw[hR,this];rfl
theorem jh(I:name.length<2^63)(M C L r1:Int)(H:aA):
 Sg 47 [.agg (eT name .bE M C L r1)] H (.ret (.int .i64 (oE name [] M C L r1))) H:=by
 refine So bKr (by simp only[sf,eT]) ?_ H;unfold W47;dsimp only;refine bP ?_;simp only[↓zP,zJ,seval,eT];refine bQ ?_;have n:=Yn name I;have S:decide ((0:Int)<1)=true:=rfl;refine bP ?_;refine Ty ?_;refine fC (n _) ?_
 cases J:rN name with
 |false=>refine Ty ?_;refine Rx ?_;unfold oE;rw[if_pos J];rfl
 |true=>
 refine Ty ?_;refine bQ ?_;refine aM fun K hK=>?_;simp only[↓zP,zJ,seval,Gw];refine Rx ?_;unfold oE;rw[if_neg ZaV,if_pos (.inl A1)];rfl
theorem aAl(I:name.length<2^63){pv:AV}{ps:List (AV×List aC.V)}(P:AY pv ps)(J:∀p∈ps,qO p)(Q:∀p∈ps,p.2.length<2^30)(X:ps.length<2^30)(M C L r1:Int)(H:aA):
 Sg 47 [.agg (eT name pv M C L r1)] H (.ret (.int .i64 (oE name (ps.map (·.2)) M C L r1))) H:=by
 rcases P with ⟨h1,Z⟩|h1
 . rw[h1,Z];exact jh I M C L r1 H
 rw[h1];exact jg I J Q X M C L r1 H
def QF(ls:List (List aC.V)):Bool:= !(ls.any fun l=>decide (10<l.length))&&decide (ls.length<=3)
variable{ps:List (AV×List aC.V)}
theorem aIo(J:∀p∈ps,qO p)(X:ps.length<2^63)(M C L r1:Int)(H:aA):
 Sg 46 [.agg (eT name (.bJ 0 1 (qH ps)) M C L r1)] H (.ret (.bool (QF (ps.map (·.2))))) H:=by
 have a:cW [AV.agg (eT name (.bJ 0 1 (qH ps)) M C L r1)]=true:=by simp only[sf,eT,MH J]
 refine So bKq a ?_ H;unfold W46;dsimp only;have c:(qH ps).length=ps.length:=Ah _;refine bP ?_;simp only[↓zP,zJ,seval,eT];refine bQ ?_;generalize G:(aA.mk 0 .nil).alloc _=I;have g0:=Kv (i:=0) G;clear G;generalize s:[AV.str name,.bJ 0 1 (qH ps),.int .i64 M,.int .i64 C,.int .i64 L,.int .i64 r1]=k at *;have d:k.getD 1 aB=.bJ 0 1 (qH ps):=by subst s;rfl
 have u:k.length=6:=by subst s;rfl
 refine aM fun K hK=>?_;refine bP ?_;refine Tz ?_;refine bQ ?_;refine cL [] (fun i _ H'=>H'=I/\∀j (Y:j<i) (U:j<ps.length),¬10<ps[j].2.length) 0 ps.length (Bk _) A0 A1 ?_ ?_ ?_ ?_ ?_
 . exact zq
 . exact ZbB
 . rintro i f H1 o F E T ⟨rfl,_⟩;have b:f 1=.ref 0 0:=E 1 rfl;simp only[↓zP,zJ,seval,T,b,g0,u,d,c];exact tB A0
 . rintro i f H1 o F E T ⟨rfl,r⟩;have b:f 1=.ref 0 0:=E 1 rfl;have t:(qH ps).getD i []=[ps[i].1]:=eO F;have m:=J _ (Ac F)
   have z:10<ps[i].2.length->QF (ps.map (·.2))=false:=fun h=>by unfold QF;rw[show((ps.map (·.2)).any fun l=>decide (10<l.length))=true from Cj.2 ⟨ps[i].2,Bb.2 ⟨_,Ac F,rfl⟩,Ag h⟩];rfl
   have g:¬10<ps[i].2.length->∀j (Y:j<i+1) (U:j<ps.length),¬10<ps[j].2.length:=fun h j Y U=>by
    exact ZbO
   generalize ps[i]=p at *;obtain⟨pv,l⟩:=p;simp only at t m z g;have dd:decide ((l.length:Int)>10)=decide (10<l.length):=(by rw[Aw];omega);refine aJ ?_;refine aM fun D cY=>?_
   rcases m with ⟨h1,Z⟩|h1
   . simp only at h1 Z;subst h1;subst Z;refine Ww ?_;have v:decide ((0:Int)>10)=false:=rfl;apply cY;clear cY D;simp only[↓zP,zG,seval,Iw];exact⟨trivial,g A1⟩
   simp only at h1;subst h1;by_cases q:10<l.length
   . rw[Ag q] at dd;have := @aU;refine Wy ?_;apply cY;clear cY D;refine Tz ?_;refine Rx ?_;rw[z q];rfl
   rw[Ab q] at dd;simp only[↓zP,zJ,seval,T,b,g0,u,d,aD,c,F,t,aU,dd];apply cY;clear cY D;refine Tz ?_;exact⟨trivial,g q⟩
 rintro f H1 E ⟨rfl,r⟩;have b:f 1=.ref 0 0:=E 1 rfl;refine Tx ?_;apply hK;clear hK K;have dd:decide ((ps.length:Int)<=3)=decide (ps.length<=3):=by rw[Aw];omega
 refine Wz ?_;refine Rx ?_;unfold QF
 rw[show((ps.map (·.2)).any fun l=>decide (10<l.length))=false from by
  rw[Eh];intro l U;obtain⟨p,m,rfl⟩:=Bb.1 U;obtain⟨j,Y,rfl⟩:=Cz m
  rw[Ab (r j Y Y)];decide,Ah]
 rfl
theorem aIp(M C L r1:Int)(H:aA):
 Sg 46 [.agg (eT name .bE M C L r1)] H (.ret (.bool (QF []))) H:=by
 refine So bKq (by simp only[sf,eT]) ?_ H;unfold W46;dsimp only;refine bP ?_;simp only[↓zP,zJ,seval,eT];refine bQ ?_;generalize G:(aA.mk 0 .nil).alloc _=I;have g0:=Kv (i:=0) G;clear G;refine aM fun K hK=>?_;refine bP ?_;refine Tz ?_;refine bQ ?_;refine cL [] (fun i _ H'=>H'=I) 0 0 (Bk _) A0 A1 ?_ ?_ ?_ ?_ ?_
 . exact zq
 . rfl
 . rintro i f H1 o F E T rfl;have b:f 1=.ref 0 0:=E 1 rfl;simp only[↓zP,zJ,seval,T,b,g0];exact tB A0
 . rintro i f H1 o F E;exact absurd F (Al _)
 rintro f H1 E rfl;have b:f 1=.ref 0 0:=E 1 rfl;have Z:decide ((0:Int)<=3)=true:=rfl;refine Tx ?_;apply hK;clear hK K;refine Wz ?_;exact ZaD
theorem aQm{pv:AV}(P:AY pv ps)(J:∀p∈ps,qO p)(X:ps.length<2^63)(M C L r1:Int)(H:aA):
 Sg 46 [.agg (eT name pv M C L r1)] H (.ret (.bool (QF (ps.map (·.2))))) H:=by
 rcases P with ⟨h1,Z⟩|h1
 . rw[h1,Z];exact aIp M C L r1 H
 rw[h1];exact aIo J X M C L r1 H
end Go.Proofs.YtogfcjbgeebfkaaGreatDoor
namespace Go.Proofs.YtogfcjbgeebfkaaGreatDoor
open Go Go.Av Go.jG Go.aC
attribute [local congr] aX aQ aR aL bA aW aS aG bB
attribute [local irreducible] FC bT eI
def NR(v:aC.V):Prop:=∀i,i<3->-1000<=v.at i/\v.at i<=1000
noncomputable def fx (l:List aC.V):Bool:= @decide (∀v∈l,NR v) (Classical.propDecidable _)
variable{l:List aC.V}
theorem Qj:fx l=true↔∀v∈l,NR v:=by unfold fx;exact @Iz _ (Classical.propDecidable _)
theorem aOo(h:¬∀v∈l,NR v):fx l=false:=by rw[<-Ew,Qj];exact h
variable{name:List UInt8}
theorem bBx{ls:List (List aC.V)}(hp:ls.length<=8)(U:∀l∈ls,l≠[]/\l.length<=64)(d:aC.V)(M C L r1:Int)(H:aA):
 Sg 35 [.agg (bd name ls M C L r1),.agg (cG d)] H (.ret (.bool (fx (d::ls.flatten)))) H:=by
 refine So bQf (by simp only[sf,sM,bV]) ?_ H;unfold W35;dsimp only;have b6:(bd name ls M C L r1).length=6:=rfl;have b1:(bd name ls M C L r1).getD 1 aB=.bJ 0 1 (pE ls):=rfl;have n:=oL (aT d);generalize bd name ls M C L r1=bc at *;refine bP ?_;refine Ty ?_;refine fW ?_;refine Wz ?_;refine bQ ?_;generalize G:aA.alloc _ _=I;have p:=Kv (i:=0) G;have O:1<=I.next:=by subst G;simp only[zI,seval]
 clear G;refine bW fun f N=>?_;have s:=Kf (i:=2) N;have f5:=Kf (i:=5) N;clear N;refine aM fun K hK=>?_;refine bP ?_;have := @yM;refine Wy ?_;refine bQ ?_
 have fl:∀i,((ls.take i).flatten).length<=512:=fun i=>by
  have :∀l:List (List aC.V),(∀x∈l,x.length<=64)->l.flatten.length<=l.length*64:=fun l=>by
   induction l with
   |nil=>simp
   |cons x r ih=>intro h;have h1:=h x Az;have Z:=ih fun y Q=>h y (As _ Q);rw[Cl,An,Ba,Dm];omega
  have h3:=this (ls.take i) fun x hx=>(U x (Cw hx)).2;have h4:(ls.take i).length<=8:=by rw[Et];omega
  have h5:(ls.take i).length*64<=8*64:=Bf _ h4;omega
 refine bS [5] (fun i vs H'=>∃v,vs=[v]/\Has H' 3 v (bR (d::(ls.take i).flatten))/\H'.get 0=some (.cells bc false)/\1<=H'.next) ls.length A0 A1 ?_ ?_ ?_ ?_ ?_
 . exact zq
 . exact zq
 . exact⟨.bJ 1 3 [cG d],by simp only[sm,zB,seval,f5],.inl rfl,p,O⟩
 . rintro i b H1 F E T ⟨v,J,S,g0,gn⟩;simp only[zM] at J;have D:b 15=.bJ 0 1 (pE ls):=E 15 rfl;have hg:=RF F
   have uL:(ls.take (i+1)).flatten=(ls.take i).flatten++ls[i]:=by rw[Ao,Af F,Fa];show _++(ls[i]++[])=_;rw[Bx]
   have a6:=U _ (Ac F);have AU:=fl i;generalize ls[i]=l at *;refine aJ ?_;refine bP ?_;simp only[↓zP,zJ,seval,D,T,aD,yM,F,hg];refine bQ ?_;generalize G:aA.set _ _ _=w;have W:=Ku G g0;have ur:=Kz G;have un:1<=w.next:=by subst G;simp only[aA.aZ,aA.bK];omega
   have R:Has w 3 v (bR (d::(ls.take i).flatten)):=S.zb Zan fun k h1 Z=>by subst G;rw[aA.aH,if_neg A0,aA.aI,if_neg A0];exact Z
   clear G
   have a7:(bR l).isEmpty=false:=by
    cases l with
    |nil=>exact absurd rfl a6.1
    |cons=>rfl
   obtain⟨H3,q,z2,z3,z4,z5⟩:=Has.push R (ys:=bR l) (bytes:=24) a7 (by rw[aU,aU,Ba];omega);have y0:=(z4 0 A0 (by rw[W];simp)).trans W;have B:dJ w 3 (.bJ 0 3 (bR l))=some (bR l):=rfl;rw[uL];simp only[↓zP,zJ,seval,J,ur,B,q];refine⟨_,rfl,?_,y0,by omega⟩;rw[show bR (d::((ls.take i).flatten++l))=bR (d::(ls.take i).flatten)++bR l by simp[bR]];exact .inr (.inr ⟨w.next,rfl,by omega,z3⟩)
 rintro b H1 E ⟨v,J,S,g0,gn⟩;simp only[zM] at J;rw[Aq] at S
 have m:∃t,v=.bJ t 3 (bR (d::ls.flatten)):=by
  rcases S with rfl|⟨_,h⟩|⟨k,rfl,_⟩
  . exact⟨_,rfl⟩
  . simp[bR] at h
  exact⟨_,rfl⟩
 obtain⟨t,rfl⟩:=m;have AU:(d::ls.flatten).length<=513:=by have :=fl ls.length;rw[Aq] at this;rw[Ba];omega
 clear S fl;generalize d::ls.flatten=l at *;refine Tx ?_;apply hK;clear hK K;refine aM fun K hK=>?_;refine bP ?_;simp only[↓zP,zG,seval,J,aU];refine bQ ?_;refine bS [] (fun i _ H'=>∀j (Y:j<i) (U:j<l.length),NR l[j]) l.length A0 A1 ?_ ?_ ?_ ?_ ?_
 . exact zq
 . exact zq
 . exact fun j Y=>absurd Y (Al _)
 . rintro i f w F fI P dq;have a:f 26=.bJ t 3 (bR l):=fI 26 rfl;have hg:=cH F;have z:¬NR l[i]->fx l=false:=fun h=>aOo fun Z=>h (Z _ (Ac F))
   have c:NR l[i]->∀j (Y:j<i+1) (U:j<l.length),NR l[j]:=fun h j Y U=>by
    rcases Nat.lt_or_eq_of_le (Nat.le_of_lt_succ Y) with h1|h1
    . exact dq j h1 U
    subst h1;exact h
   generalize l[i]=v at *;have lv:=oL (aT v);refine aJ ?_;refine bP ?_;simp only[↓zP,zJ,seval,a,P,aD,aU,F,hg,lv];refine bQ ?_;generalize G:aA.set _ _ _=H3;have u9:=Kz G;clear G;refine bP ?_;refine Wy ?_;refine bQ ?_;refine cM [] (fun k _ H'=>H'=H3/\∀j,j<k->-1000<=v.at j/\v.at j<=1000) 3 A1 rfl A1 ?_ ?_ ?_ ?_
   . exact zq
   . exact ZbB
   . rintro k g o gA u e4 ⟨rfl,Y⟩;have ab:g 32=.agg (cG v):=u 32 rfl;have A:=iC v gA;refine aJ ?_;refine bP ?_;have :k<=2:=A0;have := @aT;refine Wy ?_;refine bQ ?_;by_cases c1:v.at k>1000
     . have d1:=Ag c1;have X:=z fun h=>by have :=(h k gA).2;omega
       rw[X];simp only[↓zP,zG,seval,d1];exact ZaD
     have d1:=Ab c1;by_cases c2:v.at k< -1000
     . have e:=Ag c2;have X:=z fun h=>by have :=(h k gA).1;omega
       rw[X];simp only[↓zP,zG,seval,d1,e];exact ZaD
     have e:=Ab c2;simp only[↓zP,zG,seval,d1,e];refine⟨trivial,fun j ZX=>?_⟩
     rcases Nat.lt_or_eq_of_le (Nat.le_of_lt_succ ZX) with h|h
     . exact Y j h
     rw[h];omega
   rintro g o u ⟨rfl,Y⟩;exact c fun i F=>Y i F
 rintro f w fI dq
 have :fx l=true:=Qj.2 fun v J=>by obtain⟨j,Y,rfl⟩:=Cz J;exact dq j Y Y
 rw[this] at hK;refine Tx ?_;apply hK;clear hK K;refine Tz ?_;exact ZaD
theorem Yh(I:name.length<2^63){pv:AV}{ps:List (AV×List aC.V)}(P:AY pv ps)(J:∀p∈ps,qO p)(X:ps.length<2^63)(M C L r1:Int)(H:aA):
 Sg 7 [.agg (eT name pv M C L r1)] H (.ret (.bool (QF (ps.map (·.2))&&(oE name (ps.map (·.2)) M C L r1==0)))) H:=by
 refine Sp is7 (by simp only[sf,eT,P.free J]) Zac ?_ H;unfold W7;dsimp only;have c:=aQm (name:=name) P J X M C L r1
 have i:QF (ps.map (·.2))=true->(∀p∈ps,p.2.length<2^30)/\ps.length<2^30:=fun h=>by simp only[QF,Ak,Cx,Eh,Br,Ah] at h;refine⟨fun p m=>?_,by omega⟩;have :=h.1 p.2 (Bb.2 ⟨p,m,rfl⟩);omega
 have b:=fun h=>aAl (name:=name) I P J (i h).1 (i h).2 M C L r1;have q:(eT name pv M C L r1).length=6:=rfl;generalize eT name pv M C L r1=k at *;generalize oE name (ps.map (·.2)) M C L r1=z at *;refine bP ?_;refine Ty ?_;refine bQ ?_;have :=oL q;refine Wz ?_
 cases a:QF (ps.map (·.2)) with
 |false=>refine Tz ?_;refine Rx ?_;rfl
 |true=>simp only[↓zP,zJ,seval,oL q];refine fC (b a _) ?_;refine Tz ?_;refine Rx ?_;rfl
def mP(d:aC.V)(l:List aC.V):List aC.V:=l.map (aC.add d)
theorem sT(d:aC.V)(l:List aC.V):(mP d l).length=l.length:=by simp[mP]
theorem sR(d:aC.V){l:List aC.V}{k:Nat}(h:k<l.length):(mP d l).getD k V0=aC.add d (l.getD k V0):=by simp[mP,List.getD,h]
theorem YS(d:aC.V)(l:List aC.V):mP (aC.neg d) (mP d l)=l:=by
 unfold mP;rw[Da]
 conv=>rhs;rw[<-Fv l]
 refine Dd fun v _=>?_;show aC.add (aC.neg d) (aC.add d v)=v;refine V.ext' ?_ ?_ ?_<;>simp only[aC.add,aC.neg]<;>omega
theorem BR(d:aC.V){l:List aC.V}{a b:Nat}(I:a<l.length)(X:b<l.length):vec (fun i=>(mP d l).getD i V0) a b=vec (fun i=>l.getD i V0) a b:=by simp only[vec,sR d I,sR d X,sub,aC.add,V.mk.injEq];omega
theorem ia(d:aC.V)(l:List aC.V)(n:aC.V)(e:Int):iE (fun i=>(mP d l).getD i V0) (mP d l).length n (e+dot n d)=iE (fun i=>l.getD i V0) l.length n e:=by
 rw[sT];refine List.filter_congr fun k E=>?_;simp only[sR d (Ax.1 E),fV]
 grind
theorem Qt(d:aC.V){l:List aC.V}{n:aC.V}{e:Int}(h:oM (fun i=>l.getD i V0) l.length n e):oM (fun i=>(mP d l).getD i V0) (mP d l).length n (e+dot n d) where
 le k E:=by rw[sT] at E;have :=h.le k E;simp only[sR d E,fV] at *;omega
 lt:=by obtain⟨k,E,r⟩:=h.lt;refine⟨k,by grind[sT],?_⟩;simp only[sR d E,fV] at *;omega
 ZF:=by
  obtain⟨a,b,c,I,X,R,O,Z,W⟩:=h.ZF;refine⟨a,b,c,by grind[sT],by grind[sT],by grind[sT],?_,?_,?_⟩
  . rw[BR d I X,BR d I R];omega
  . rw[BR d I X,BR d I R];omega
  simp only[sR d I,fV] at *;omega
theorem aHh(d:aC.V){l:List aC.V}{v:aC.V}(h:IsE l v):IsE (mP d l) v:=by
 obtain⟨q,L,a,b,u,I,j,rfl⟩:=h;have C:∀k∈iE (fun i=>l.getD i V0) l.length q.1 q.2,k<l.length:=fun k E=>(cJ.1 E).1;refine⟨(q.1,q.2+dot q.1 d),Qt d L,a,b,?_,by rw[ia];omega,j,?_⟩
 . rw[ia];refine⟨u.1,u.2.1,fun k E=>?_⟩;rw[BR d (C a I) (C b u.1),BR d (C a I) (C k E)];exact u.2.2 k E
 exact(BR d (C a I) (C b u.1)).symm
theorem bCc(d:aC.V){a b:List aC.V}{n:aC.V}(h:IsD a b n):IsD (mP d a) (mP d b) n:=by
 rcases h with ⟨e,h⟩|⟨e,h⟩|⟨u,w,O,Z,W⟩
 . exact .inl ⟨_,Qt d h⟩
 . exact .inr (.inl ⟨_,Qt d h⟩)
 exact .inr (.inr ⟨u,w,aHh d O,aHh d Z,W⟩)
theorem aHi(n d:aC.V):∀(l:List aC.V) (m:Int),wX n (m+dot n d) (mP d l)=wX n m l+dot n d
 |[],m=>rfl
 |v::l,m=>by have z:=aHi n d l (if aC.dot n v<m then aC.dot n v else m);show wX n (if aC.dot n (aC.add d v)<m+dot n d then aC.dot n (aC.add d v) else m+dot n d) (mP d l)=wX n (if aC.dot n v<m then aC.dot n v else m) l+dot n d;rw[<-z];congr 1;rw[fV];omega
theorem aHg(n d:aC.V):∀(l:List aC.V) (m:Int),wV n (m+dot n d) (mP d l)=wV n m l+dot n d
 |[],m=>rfl
 |v::l,m=>by have z:=aHg n d l (if aC.dot n v>m then aC.dot n v else m);show wV n (if aC.dot n (aC.add d v)>m+dot n d then aC.dot n (aC.add d v) else m+dot n d) (mP d l)=wV n (if aC.dot n v>m then aC.dot n v else m) l+dot n d;rw[<-z];congr 1;rw[fV];omega
theorem bCd(d:aC.V){a b:List aC.V}(I:a≠[])(X:b≠[])(n:aC.V):oJ (mP d a) (mP d b) n=oJ a b n:=by have D:0<a.length:=Hk.2 I;have B:0<b.length:=Hk.2 X;unfold oJ;rw[sR d D,sR d B,fV,fV,Int.add_comm (dot n d),Int.add_comm (dot n d),aHi,aHi,aHg,aHg];simp
theorem aHj(d:aC.V){a b:List aC.V}(I:a≠[])(X:b≠[])(h:lP a b=true):lP (mP d a) (mP d b)=true:=by obtain⟨n,O,Z⟩:=nS.1 h;exact nS.2 ⟨n,bCc d O,by rw[bCd d I X];omega⟩
theorem bCb(d:aC.V){a b:List aC.V}(I:a≠[])(X:b≠[]):lP (mP d a) (mP d b)=lP a b:=by
 rw[Dc];refine⟨fun h=>?_,aHj d I X⟩;have :=aHj (aC.neg d) (by simp_all[mP]) (by simp_all[mP]) h
 grind[YS]
theorem bMc(d:aC.V)(l:List aC.V):oW (fun i=>(mP d l).getD i V0) (mP d l).length ((dY l).map fun q=>(q.1,q.2+dot q.1 d)) where
 mem q:=by
  constructor
  . intro h;obtain⟨r,a,rfl⟩:=Bb.1 h;exact Qt d (((lT l).mem r).1 a)
  intro h;refine Bb.2 ⟨(q.1,q.2+dot q.1 (aC.neg d)),((lT l).mem _).2 ?_,?_⟩
  . have :=Qt (aC.neg d) h
    grind[YS]
  obtain⟨n,e⟩:=q;simp only[WD,Ap,Ju];omega
 Ra:=by rw[Eo];exact(lT l).Ra
theorem Oy(d:aC.V)(l:List aC.V):dY (mP d l)=(dY l).map fun q=>(q.1,q.2+dot q.1 d):=(lT _).uniq (bMc d l)
theorem qd(d:aC.V){l:List aC.V}(h:l.Pairwise iO):(mP d l).Pairwise iO:=by grind[mP,iO,aC.add]
theorem Uy(d:aC.V){l:List aC.V}(h:l.Pairwise iO){q:aC.V×Int}(D:q∈dY l):fU (mP d l) (q.1,q.2+dot q.1 d)=fU l q:=by
 have P:=(jO h).po q D;have o:=(jO (qd d h)).po (q.1,q.2+dot q.1 d) (by grind[Oy]);refine Poly.conv P o (ia d l q.1 q.2) fun a I b u=>?_;have C:∀k∈iE (fun i=>l.getD i V0) l.length q.1 q.2,k<l.length:=fun k E=>(cJ.1 E).1;refine⟨u.1,u.2.1,fun k E=>?_⟩;have :=u.2.2 k E
 rwa [BR d (C a I) (C b u.1),BR d (C a I) (C k E)] at this
theorem OA{α i:Type}{f g:α->List i}:∀{l:List α},(∀x∈l,f x=g x)->l.flatMap f=l.flatMap g
 |[],_=>rfl
 |x::l,h=>by rw[Dw,Dw,h x Az,OA fun y Q=>h y (As _ Q)]
theorem aMg(d:aC.V){l:List aC.V}(h:l.Pairwise iO):oY (dY (mP d l)) (fU (mP d l))=oY (dY l) (fU l):=by unfold oY;rw[Oy,List.flatMap_map];exact OA fun q D=>by rw[Uy d h D]
theorem aRc(d:aC.V){l:List aC.V}(h:l.Pairwise iO):gV (dY (mP d l)) (fU (mP d l))=gV (dY l) (fU l):=by
 funext k;unfold gV;rw[Oy,List.any_map];rw[Dc,Cj,Cj];constructor
 . rintro⟨q,D,e⟩;refine⟨q,D,?_⟩;rw[Function.comp_apply,Uy d h D] at e;omega
 rintro⟨q,D,e⟩;refine⟨q,D,?_⟩;rw[Function.comp_apply,Uy d h D];omega
theorem aGc(d:aC.V){l:List aC.V}(h:l.Pairwise iO):gZ (mP d l) (dY (mP d l)) (fU (mP d l))=mP d (gZ l (dY l) (fU l)):=by
 unfold gZ;rw[aRc d h,sT]
 conv=>rhs;unfold mP
 rw[Da];refine Dd fun k E=>?_;exact sR d (by grind)
theorem aMr(d:aC.V){l:List aC.V}(h:mS l=0)(A:∀v∈mP d l,bN (2^18) v):mS (mP d l)=0:=by
 obtain⟨M,W,_,a,i,_,_⟩:=nB h;have b:=qd d M;unfold mS Od at h ⊢;rw[W] at h;rw[Lz b];split at h
 . omega
 rename_i O;have Z:gZ l (dY l) (fU l)=l:=Cq fun R=>O ⟨h,R⟩
 have h4:4<=(dY l).length:=by
  unfold iW at h
  grind
 have I:(mP d l).all ey=true:=Bh.2 fun v J=>Lh.2 (A v J)
 have S:(iW (mP d l) (mP d l) (dY (mP d l)) (fU (mP d l))).2=0:=by unfold iW;rw[if_neg (by grind[sT]),if_neg (by grind),Oy,Ah,if_neg A0,if_neg A0]
 rw[S,aGc d M,Z,if_neg (fun R=>R.2 rfl)]
theorem aOv(d:aC.V){l:List aC.V}{A B:Nat}(h:∀v∈l,bN A v)(hd:bN B d):∀v∈mP d l,bN (A+B) v:=by intro v J;obtain⟨u,K,rfl⟩:=Bb.1 J;have :=h u K;simp only[bN,aC.add] at *;omega
def cN:Nat->(Nat->List AV)->List AV
 |0,_=>[]
 |n+1,c=>cN n c++c n
theorem Mv{m:Nat}:∀{n:Nat} {c:Nat->List AV},(∀i,i<n->(c i).length=m)->(cN n c).length=n*m
 |0,_,_=>by simp[cN]
 |n+1,c,h=>by rw[cN,An,Mv fun i F=>h i A0,h n A0,Dm]
theorem Mu{m:Nat}:∀{n:Nat} {c:Nat->List AV},(∀i,i<n->(c i).length=m)->∀{i:Nat},i<n->((cN n c).drop (i*m)).take m=c i
 |0,_,_,i,F=>absurd F (Al _)
 |n+1,c,h,i,F=>by
  have K:∀i,i<n->(c i).length=m:=fun i F=>h i A0;have U:=Mv K;rw[cN];by_cases T:i<n
  . have O:i*m+m<=n*m:=by rw[<-Dm];exact Bf _ T
    rw[Ep A0,Cb (by grind)];exact Mu K T
  grind
theorem aDx{m:Nat}:∀{n:Nat} {c:Nat->List AV},(∀i,i<n->(c i).length=m)->∀{i:Nat},i<n->∀{x:List AV},x.length=m->(cN n c).take (i*m)++x++(cN n c).drop (i*m+m)=cN n (fun j=>if j=i then x else c j)
 |0,_,_,i,F,_,_=>absurd F (Al _)
 |n+1,c,h,i,F,x,hx=>by
  have K:∀i,i<n->(c i).length=m:=fun i F=>h i A0;have U:=Mv K;rw[cN,cN];by_cases T:i<n
  . have O:i*m+m<=n*m:=by rw[<-Dm];exact Bf _ T
    rw[Cb A0,Ep A0,<-Dg,aDx K T hx,if_neg A0]
  have e:i=n:=by omega
  subst e
  have R:cN i (fun j=>if j=i then x else c j)=cN i c:=by
   have :∀n,n<=i->cN n (fun j=>if j=i then x else c j)=cN n c:=fun n=>by
    induction n with
    |zero=>intro _;rfl
    |succ n z=>intro A;rw[cN,cN,z A0,if_neg A0]
   exact this i (Ae _)
  rw[R,if_pos rfl,<-U,List.take_left,Bc (by rw[An,h i A0,U];omega),Bx]
theorem Pq{c d:Nat->List AV}:∀{n:Nat},(∀i,i<n->c i=d i)->cN n c=cN n d
 |0,_=>rfl
 |n+1,h=>by rw[cN,cN,Pq fun i F=>h i A0,h n A0]
def vj(l:List aC.V)(t:Nat×Nat×Nat):Nat->aC.V
 |0=>iI l t.1
 |1=>iI l t.2.1
 |_=>iI l t.2.2
def qI(l:List aC.V)(t:Nat×Nat×Nat)(i k:Nat):Nat->Int
 |0=>sI l t i*sI l t k
 |j+1=>qI l t i k j+(vj l t j).at i*(vj l t j).at k
def GX(l:List aC.V)(p:Nat)(T:List (Nat×Nat×Nat)):Option Int:=pW (fun t=>lY (some (nF l t)) (some (qI l t (p / 3) (p%3) 3))) T
def II(l:List aC.V)(r:Nat)(T:List (Nat×Nat×Nat))(H:aA):Prop:=r<H.next/\H.get r=some (.cells (cN 9 fun p=>cO (GX l p T)) false)
theorem aGf{M:Nat}(U:∀v∈l,bN M v)(hM:M<=2^18)(r:Nat):lg l 164 r (II l r):=by
 intro T t H O Z h3 hr al ⟨_,hI⟩
 have vn:∀k,k<l.length->bN M (iI l k):=fun k E=>by
  have :iI l k=l[k]:=by simp[iI,List.getD,E]
  rw[this];exact U _ (Ac E)
 have hd:dN (cI (nF l t)) (some (nF l t)):=.enc (Bn (Rj U hM O Z h3) A1);have lo:∀x,(cO x).length=18:=fun x=>jU x;have l9:(yU l t).length=9:=rfl;have n:=cC (nF l t);have L:=fun i hi=>ZG l t (i:=i) hi
 have b:∀i,((iI l t.1).at i).natAbs<=2^18/\((iI l t.2.1).at i).natAbs<=2^18/\((iI l t.2.2).at i).natAbs<=2^18:=fun i=>by have a1:=GA (vn _ O) i;have Q:=GA (vn _ Z) i;have a3:=GA (vn _ h3) i;refine⟨?_,?_,?_⟩<;>omega
 have vb:∀j i,((vj l t j).at i).natAbs<=2^18:=fun j i=>by
  unfold vj;split
  . exact(b i).1
  . exact(b i).2.1
  exact(b i).2.2
 have sb:∀i,(sI l t i).natAbs<=3*2^18:=fun i=>by have :=b i;unfold sI;omega
 have mb:∀{x y:Int} {A B:Nat},x.natAbs<=A->y.natAbs<=B->(x*y).natAbs<=A*B:=fun h k=>by rw[El];exact Be h k
 have pb:∀i k j,((vj l t j).at i*(vj l t j).at k).natAbs<=2^36:=fun i k j=>Ay (mb (vb j i) (vb j k)) A1
 have qb:∀i k j,(qI l t i k j).natAbs<=(9+j)*2^36:=fun i k j=>by
  induction j with
  |zero=>exact Ay (mb (sb i) (sb k)) A1
  |succ j ih=>have :=pb i k j;unfold qI;omega
 have aj:∀j,j<3->((yU l t).drop (j*3)).take 3=cG (vj l t j):=fun j hj=>by
  match j,hj with
  |0,_=>rfl
  |1,_=>rfl
  |2,_=>rfl
 have w:∀p,GX l p (T++[t])=nL (GX l p T) (lY (some (nF l t)) (some (qI l t (p / 3) (p%3) 3))):=fun p=>AP _ _ _;have F:∀p T,dN (cO (GX l p T)) (GX l p T):=fun p T=>dN.pW _ _
 obtain⟨_,H',⟨rfl,h⟩,hS⟩:=dM (R:=fun o H'=>o=.ret (nN [])/\(H'.get r=some (.cells (cN 9 fun p=>cO (GX l p (T++[t]))) false)/\Me H H' r/\bH H')) fit aSs (args:=[.agg (cI (nF l t)),.agg (yU l t),.ref r 0]) (H:=H) (Ai rfl) (by
  unfold aLi;dsimp only;refine bP ?_;refine Tz ?_;refine bQ ?_;generalize G:(aA.alloc _ _).alloc _=I;have a0:I.get H.next=some (.cells (cI (nF l t)) false):=by subst G;rw[aA.aI,if_neg A2,aA.aI,if_pos rfl]
  have a1:I.get (H.next+1)=some (.cells (yU l t) false):=by subst G;rw[aA.aI,if_pos A2]
  have ar:I.get r=some (.cells (cN 9 fun p=>cO (GX l p T)) false):=by subst G;rw[aA.aI,if_neg Zaf,aA.aI,if_neg A0];exact hI
  have S:Over H I:=by subst G;exact((Over.refl H).alloc _).alloc _
  have aF:bH I:=by subst G;exact(al.alloc _).alloc _
  have aN:H.next+1<I.next:=by subst G;simp only[aA.bK];omega
  clear G
  obtain⟨a,ya⟩:∃a:Nat->aA->Prop,a=fun m H'=>H'.get r=some (.cells (cN 9 fun p=>if p<m then cO (GX l p (T++[t])) else cO (GX l p T)) false)/\H'.get H.next=some (.cells (cI (nF l t)) false)/\H'.get (H.next+1)=some (.cells (yU l t) false)/\Me H H' r/\bH H'/\H.next+1<H'.next:=⟨_,rfl⟩
  have i0:a 0 I:=by rw[ya];refine⟨?_,a0,a1,.of S,aF,aN⟩;simp only[Al,Cv];exact ar
  clear a0 a1 ar S aF aN;refine bW fun f N=>?_;have s:=Kf (i:=2) N;have f3:=Kf (i:=3) N;have f4:=Kg (i:=4) N;clear N;refine bP ?_;refine Tz ?_;refine bQ ?_;refine cM [] (fun i _ H'=>a (3*i) H') 3 A1 rfl A1 ?_ ?_ ?_ ?_
  . exact zq
  . exact i0
  . rintro i f1 H1 JJ E e1 j0;have k2:f1 2=.ref r 0:=by rw[E 2 rfl];simp only[zB,seval];exact s
    have k3:f1 3=.ref H.next 0:=Zbt;have k4:f1 4=.ref (H.next+1) 0:=(by rw[E 4 rfl];simp only[zB,seval];exact f4);clear E;refine aJ ?_;refine bP ?_;simp only[↓zP,zG,seval,e1];refine fW ?_;refine Tz ?_;refine bQ ?_;refine cM [] (fun k _ H'=>a (3*i+k) H') 3 A1 rfl A1 ?_ ?_ ?_ ?_
    . exact zq
    . exact j0
    . rintro k f5 H2 gA E P j1;have q2:f5 2=.ref r 0:=(by rw[E 2 rfl];simp only[zB,seval];exact k2);have q3:f5 3=.ref H.next 0:=(by rw[E 3 rfl];simp only[zB,seval];exact k3);have q4:f5 4=.ref (H.next+1) 0:=Zbs;have q5:f5 5=.int .i64 i:=E 5 rfl;clear E;refine aJ ?_;refine bP ?_;simp only[↓zP,zG,seval,P];refine bQ ?_
      have ws:∀i,IntKind.i64.wrap ((iI l t.1).at i+(iI l t.2.1).at i)=(iI l t.1).at i+(iI l t.2.1).at i/\IntKind.i64.wrap ((iI l t.1).at i+(iI l t.2.1).at i+(iI l t.2.2).at i)=sI l t i:=fun i=>by have :=b i;exact⟨wrap_i64 A0 A0,wrap_i64 A0 A0⟩
      obtain⟨w1,w2⟩:=ws i;obtain⟨w3,w4⟩:=ws k
      have w5:IntKind.i64.wrap (sI l t i*sI l t k)=qI l t i k 0:=by have :=qb i k 0;unfold qI at this ⊢;exact wrap_i64 A0 A0
      obtain⟨x0,x1,x2⟩:=L i JJ;obtain⟨y0,y1,y2⟩:=L k gA;have j2:=j1;rw[ya] at j2;obtain⟨d,g0,g1,gs,C,gn⟩:=j2;refine aM fun K hK=>?_;refine Dz ?_;have :i+1<=9:=A0;have :3+i+1<=9:=A0;have :6+i+1<=9:=A0;have :k+1<=9:=A0;have :3+k+1<=9:=A0;have :6+k+1<=9:=A0;refine Wy ?_;apply hK;clear hK K d g0 g1 gs C gn;refine bW fun g hg=>?_;have p2:=Ks hg q2;have u:=Ks hg q3;have p4:=Ks hg q4;have p5:=Ks hg q5;have p6:=Kf (i:=6) hg;have p7:=Kf (i:=7) hg;clear hg;refine aM fun K hK=>?_;refine aM fun D cY=>?_;have j3:=j1;rw[ya] at j3;obtain⟨d,g0,g1,gs,C,gn⟩:=j3;have :=oL l9;refine Ww ?_;apply cY;clear cY D d g0 g1 gs C gn;refine cM [7] (fun j vs H'=>vs=[.int .i64 (qI l t i k j)]/\a (3*i+k) H') 3 A1 rfl A1 ?_ ?_ ?_ ?_
      . exact zq
      . exact⟨by simp only[sm,zB,seval,p7],j1⟩
      . rintro j J X W E e3 ⟨qK,j4⟩;simp only[zM] at qK;have m5:J 5=.int .i64 i:=(E 5 rfl).trans p5;have m6:J 6=.int .i64 k:=(E 6 rfl).trans p6;have ag:J 45=.agg (yU l t):=E 45 rfl;clear E;have ak:=aj j W;have v3:=oL (aT (vj l t j));have vi:=iC (vj l t j) JJ;have vk:=iC (vj l t j) gA
        have w6:IntKind.i64.wrap ((vj l t j).at i*(vj l t j).at k)=(vj l t j).at i*(vj l t j).at k:=by have :=pb i k j;exact wrap_i64 A0 A0
        have c:IntKind.i64.wrap (qI l t i k j+(vj l t j).at i*(vj l t j).at k)=qI l t i k (j+1):=by have :=qb i k (j+1);rw[show qI l t i k (j+1)=qI l t i k j+(vj l t j).at i*(vj l t j).at k from rfl] at this ⊢;exact wrap_i64 A0 A0
        rw[ya] at j4 ⊢;obtain⟨d,g0,g1,gs,C,gn⟩:=j4;refine aJ ?_;refine bP ?_;simp only[↓zP,zJ,seval,e3,ag,aD,W,l9,ak,v3,show j*3+3<=9 by omega];refine bQ ?_;generalize G:(X.alloc _).set X.next _=H4;have ur:=Ku G d;have u0:=Ku G g0;have u1:=Ku G g1;have u9:=Kz G;have us:Me H H4 r:=(by subst G;exact gs.trans (.of (((Over.refl X).alloc _).set (Ae _) _)));have uf:bH H4:=(by subst G;exact(C.alloc _).set Zao _);have un:H.next+1<H4.next:=Zan;clear G;generalize X.next=r9 at *;refine Dz ?_;simp only[↓zP,zJ,seval,zD,qK,m5,m6,u9,aD,JJ,gA,aT,vi,vk,w6,c,show i<=2 by omega,show k<=2 by omega];exact⟨ur,u0,u1,us,uf,un⟩
      rintro J X E ⟨qK,j4⟩;simp only[zM] at qK;have Y:J 2=.ref r 0:=(E 2 rfl).trans p2;have m3:J 3=.ref H.next 0:=(E 3 rfl).trans u;have m5:J 5=.int .i64 i:=(E 5 rfl).trans p5;have m6:J 6=.int .i64 k:=(E 6 rfl).trans p6;refine Tx ?_;apply hK;clear hK K;rw[ya] at j4 ⊢;obtain⟨d,g0,g1,gs,C,gn⟩:=j4;have af:=qb i k 3;have tH:3*i+k<9:=A0;have a6:∀p,p<9->(if p<3*i+k then cO (GX l p (T++[t])) else cO (GX l p T)).length=18:=fun p _=>by split<;>exact lo _
      have a7:=Mu a6 tH;rw[if_neg A0] at a7;have ab:=w (3*i+k);rw[show(3*i+k) / 3=i by omega,show(3*i+k)%3=k by omega] at ab;have of:=qN (z:=qI l t i k 3) A0 A0;have mu:=tX hd (dN.enc (z:=qI l t i k 3) (Bn af A1));have q:=tU (F (3*i+k) T) (dN.mul (x:=some (nF l t)) (y:=some (qI l t i k 3)));rw[<-ab] at q;have hp:i*54+k*18=(3*i+k)*18:=A0;have ae:(3*i+k)*18<=144:=A0;have GV:=aDx a6 tH (lo (GX l (3*i+k) (T++[t])));refine Dz ?_;simp only[↓zP,zJ,seval,zD,Y,m3,m5,m6,qK,aD,JJ,gA,d,g0,Mv a6,n,oL n,hp,ae,a7];refine gH (of _) ?_;simp only[seval];refine gH (mu _) ?_;simp only[seval];refine gH (q _) ?_;simp only[↓zP,zJ,seval,zD,Y,aD,JJ,gA,d,lo,Mv a6,hp,ae];rw[GV,if_neg A0,if_neg A0];refine⟨Am (fun l=>eG.cells l false) (Pq fun p _=>?_),g0,g1,gs.set _,C.set A0 _,gn⟩;by_cases h:p=3*i+k
      . exact ZaE
      rw[if_neg h];by_cases Z:p<3*i+k
      . rw[if_pos Z,if_pos A0]
      rw[if_neg Z,if_neg A0]
    rintro f5 H2 E j1;exact j1
  rintro f1 H1 E j0;rw[ya] at j0;obtain⟨d,g0,g1,gs,C,gn⟩:=j0;have e:(cN 9 fun p=>if p<3*3 then cO (GX l p (T++[t])) else cO (GX l p T))=cN 9 fun p=>cO (GX l p (T++[t])):=Pq fun p hp=>if_pos hp;rw[e] at d
  exact⟨rfl,[],rfl,rfl,d,gs,C⟩)
 exact⟨H',hS,⟨by have :=h.2.1.1;omega,h.1⟩,h.2.1,h.2.2⟩
noncomputable def se (l:List aC.V) (p:Nat):Option Int:=GX l p (oY (dY l) (fU l))
noncomputable def trO (l:List aC.V):Option Int:=nL (nL (se l 0) (se l 4)) (se l 8)
noncomputable def za (l:List aC.V) (p:Nat):Option Int:=if p / 3=p%3 then nL (wG (se l p)) (trO l) else wG (se l p)
noncomputable def NN (l:List aC.V) (p:Nat):Option Rat:=rQ (za l p) (some 120)
def mR(x:Nat->Option Rat)(n:Nat):List (List AV):=(List.range n).map fun p=>eB (x p)
theorem yJ(x:Nat->Option Rat)(n:Nat):(mR x n).length=n:=by simp[mR]
theorem pr(x:Nat->Option Rat)(n:Nat):mR x (n+1)=mR x n++[eB (x n)]:=by simp[mR,Ds]
theorem xM(x:Nat->Option Rat)(n:Nat):fN (mR x n)=true:=by exact dP (fun p=>cS (x p)) _
def z162:List AV:=cN 9 fun _=>cO (some 0)
theorem aKq:[AV.bool false,AV.bool false,AV.int .u32 0,AV.int .u32 0,AV.int .u32 0,AV.int .u32 0,AV.int .u32 0,AV.int .u32 0,AV.int .u32 0,AV.int .u32 0,AV.int .u32 0,AV.int .u32 0,AV.int .u32 0,AV.int .u32 0,AV.int .u32 0,AV.int .u32 0,AV.int .u32 0,AV.int .u32 0,AV.bool false,AV.bool false,AV.int .u32 0,AV.int .u32 0,AV.int .u32 0,AV.int .u32 0,AV.int .u32 0,AV.int .u32 0,AV.int .u32 0,AV.int .u32 0,AV.int .u32 0,AV.int .u32 0,AV.int .u32 0,AV.int .u32 0,AV.int .u32 0,AV.int .u32 0,AV.int .u32 0,AV.int .u32 0,AV.bool false,AV.bool false,AV.int .u32 0,AV.int .u32 0,AV.int .u32 0,AV.int .u32 0,AV.int .u32 0,AV.int .u32 0,AV.int .u32 0,AV.int .u32 0,AV.int .u32 0,AV.int .u32 0,AV.int .u32 0,AV.int .u32 0,AV.int .u32 0,AV.int .u32 0,AV.int .u32 0,AV.int .u32 0,AV.bool false,AV.bool false,AV.int .u32 0,AV.int .u32 0,AV.int .u32 0,AV.int .u32 0,AV.int .u32 0,AV.int .u32 0,AV.int .u32 0,AV.int .u32 0,AV.int .u32 0,AV.int .u32 0,AV.int .u32 0,AV.int .u32 0,AV.int .u32 0,AV.int .u32 0,AV.int .u32 0,AV.int .u32 0,AV.bool false,AV.bool false,AV.int .u32 0,AV.int .u32 0,AV.int .u32 0,AV.int .u32 0,AV.int .u32 0,AV.int .u32 0,AV.int .u32 0,AV.int .u32 0,AV.int .u32 0,AV.int .u32 0,AV.int .u32 0,AV.int .u32 0,AV.int .u32 0,AV.int .u32 0,AV.int .u32 0,AV.int .u32 0,AV.bool false,AV.bool false,AV.int .u32 0,AV.int .u32 0,AV.int .u32 0,AV.int .u32 0,AV.int .u32 0,AV.int .u32 0,AV.int .u32 0,AV.int .u32 0,AV.int .u32 0,AV.int .u32 0,AV.int .u32 0,AV.int .u32 0,AV.int .u32 0,AV.int .u32 0,AV.int .u32 0,AV.int .u32 0,AV.bool false,AV.bool false,AV.int .u32 0,AV.int .u32 0,AV.int .u32 0,AV.int .u32 0,AV.int .u32 0,AV.int .u32 0,AV.int .u32 0,AV.int .u32 0,AV.int .u32 0,AV.int .u32 0,AV.int .u32 0,AV.int .u32 0,AV.int .u32 0,AV.int .u32 0,AV.int .u32 0,AV.int .u32 0,AV.bool false,AV.bool false,AV.int .u32 0,AV.int .u32 0,AV.int .u32 0,AV.int .u32 0,AV.int .u32 0,AV.int .u32 0,AV.int .u32 0,AV.int .u32 0,AV.int .u32 0,AV.int .u32 0,AV.int .u32 0,AV.int .u32 0,AV.int .u32 0,AV.int .u32 0,AV.int .u32 0,AV.int .u32 0,AV.bool false,AV.bool false,AV.int .u32 0,AV.int .u32 0,AV.int .u32 0,AV.int .u32 0,AV.int .u32 0,AV.int .u32 0,AV.int .u32 0,AV.int .u32 0,AV.int .u32 0,AV.int .u32 0,AV.int .u32 0,AV.int .u32 0,AV.int .u32 0,AV.int .u32 0,AV.int .u32 0,AV.int .u32 0]=z162:=rfl
theorem aNx(h:mS l=0)(H:aA):Sg 78 [.agg [.bJ 0 3 (bR l)]] H (.ret (.agg [.int .i64 3,.int .i64 3,.bJ 0 36 (mR (NN l) 9)])) H:=by
 obtain⟨s,_,cU,_,Q,_,U⟩:=nB h;have u:=jO s;refine eP fit eE bLc (Ai rfl) (by simp only[sf,cT (tag:=0) rfl]) ?_ H;unfold W78;dsimp only;have lo:∀x,(cO x).length=18:=fun x=>jU x;simp only[aKq];refine bP ?_;refine Tz ?_;refine fW ?_;refine Ty ?_;refine bQ ?_;have lz:z162.length=162:=rfl;generalize G:(((aA.mk 0 .nil).alloc _).alloc _).alloc _=I;have a0:=Kv (i:=0) G;have a1:=Kv (i:=1) G;have a2:=Kv (i:=2) G;have an:I.next=3:=by subst G;rfl
 have aF:bH I:=by subst G;exact(((bH.nil _).alloc _).alloc _).alloc _
 clear G;obtain⟨_,w,⟨rfl,hI,A,N⟩,al⟩:=Rh (tag:=0) rfl U (Ae _) Q u cU (BA s) (II l 2) (fun T H H' S ⟨O,Z⟩=>⟨Bg O S.le,RD S Z O⟩) (aGf U (Ae _) 2) (H0:=I) A0 ⟨by omega,a2⟩ aF;have b1:=(A.2 1 A0 A0).trans a1;have aj:3<=w.next:=by have :=A.1;omega
 have nh:w.get 2=some (.cells (cN 9 fun p=>cO (se l p)) false):=hI.2;clear hI;refine aM fun K hK=>?_;refine Wy ?_;apply hK;clear hK K a0 a1 a2 aF;have a:∀p,p<9->(cO (se l p)).length=18:=fun p _=>lo _;have q0:(cN 9 fun p=>cO (se l p)).take 18=cO (se l 0):=Mu (m:=18) a (i:=0) A1;have q4:((cN 9 fun p=>cO (se l p)).drop 72).take 18=cO (se l 4):=Mu (m:=18) a (i:=4) A1;have q8:((cN 9 fun p=>cO (se l p)).drop 144).take 18=cO (se l 8):=Mu (m:=18) a (i:=8) A1;have l9:=Mv a;have is:∀p,dN (cO (se l p)) (se l p):=fun p=>dN.pW _ _;have aq:=tU (is 0) (is 4);have af:=tU (dN.add (x:=se l 0) (y:=se l 4)) (is 8);rw[show nL (nL (se l 0) (se l 4)) (se l 8)=trO l from rfl] at af;refine bP ?_;refine fT 1 A1 N.vm fun H1 n1 e1=>?_;have :=oL Mb;refine Wz ?_;refine bQ ?_;have c:bH H1:=fun j Y=>by rw[e1 j];exact N j A0
 generalize G:(H1.set w.next _).set w.next _=HB;have d1:=Kw G e1 b1;have d2:=Kw G e1 nh;have d4:=Kz G;have dn:w.next+1=HB.next:=by subst G;simp only[aA.aZ];omega
 have dF:bH HB:=by subst G;exact(c.set A0 _).set ZbH _
 clear G;generalize w.next=r4 at *;refine bP ?_;refine Ty ?_;refine bQ ?_;generalize G:(HB.alloc _).set HB.next _=HC;have c1:=Ku G d1;have c2:=Ku G d2;have c4:=Ku G d4
 have c5:HC.get HB.next=some (.cells [.int .i64 3,.int .i64 3,.bE] false):=by subst G;rw[aA.aH,if_pos rfl];try rfl
 have cn:HB.next<HC.next:=by subst G;simp only[aA.aZ,aA.bK];omega
 clear G;generalize HB.next=F at *;refine bW fun f D=>?_;have f2:f 2=.ref 1 0:=by subst D;simp only[zB,seval]
 have f3:f 3=.ref 2 0:=by subst D;simp only[zB,seval]
 have f4:f 4=.ref r4 0:=by subst D;simp only[zB,seval]
 have f5:f 5=.ref F 0:=by subst D;simp only[zB,seval]
 clear D
 obtain⟨J,hJ⟩:∃J:Nat->aA->Prop,J=fun m H'=>∃v,Own H' 36 v (mR (NN l) m)/\H'.get F=some (.cells [.int .i64 3,.int .i64 3,v] false)/\H'.get 1=some (.cells [.int .i64 0,.int .i64 0,.bE] false)/\H'.get 2=some (.cells (cN 9 fun p=>cO (se l p)) false)/\H'.get r4=some (.cells (cO (trO l)) false)/\F<H'.next:=⟨_,rfl⟩
 have j0:J 0 HC:=by rw[hJ];exact⟨.bE,.nil _ _,c5,c1,c2,c4,cn⟩
 refine aM fun K hK=>?_;refine bP ?_;refine Tz ?_;refine bQ ?_;refine cM [] (fun i _ H'=>J (3*i) H') 3 A1 rfl A1 ?_ ?_ ?_ ?_
 . exact zq
 . exact j0
 . rintro i b H1 JJ E t j0;have k3:b 3=.ref 2 0:=by rw[E 3 rfl];simp only[zB,seval];exact f3
   have k4:b 4=.ref r4 0:=(by rw[E 4 rfl];simp only[zB,seval];exact f4);have k5:b 5=.ref F 0:=Zbr;clear E;refine aJ ?_;refine bP ?_;simp only[↓zP,zG,seval,t];refine fW ?_;refine Tz ?_;refine bQ ?_;refine cM [] (fun k _ H'=>J (3*i+k) H') 3 A1 rfl A1 ?_ ?_ ?_ ?_
   . exact zq
   . exact j0
   . rintro k f6 H2 gA E P d;have q3:f6 3=.ref 2 0:=(by rw[E 3 rfl];simp only[zB,seval];exact k3);have a6:f6 4=.ref r4 0:=Zbs;have q5:f6 5=.ref F 0:=(by rw[E 5 rfl];simp only[zB,seval];exact k5);have q6:f6 6=.int .i64 i:=E 6 rfl;clear E;have X:3*i+k<9:=A0;have ad:=Mu a X;have hp:i*54+k*18=(3*i+k)*18:=A0;have ag:(3*i+k)*18<=144:=A0;have ng:=PX (is (3*i+k));rw[hJ] at d;obtain⟨v,S,g5,g,g2,g4,gn⟩:=d;refine aJ ?_;refine bP ?_;simp only[↓zP,zG,seval,P];refine fW ?_;simp only[↓zP,zJ,seval,q3,q6,aD,JJ,gA,g2,l9,hp,ag,ad];refine fC (ng _) ?_;simp only[↓zP,zJ,seval,lo,oL Mb];refine bQ ?_;generalize G:(H2.alloc _).set H2.next _=o;have B:=Ku G g;have u2:=Ku G g2;have u4:=Ku G g4;have u5:=Ku G g5;have u8:=Kz G;have un:o.next=H2.next+1:=by subst G;simp only[aA.aZ,aA.bK]
     have R:Own o 36 v (mR (NN l) (3*i+k)):=by refine wK S A0 fun k O Z=>?_;subst G;rw[aA.aH,if_neg A0,aA.aI,if_neg A0];exact Z
     clear G S g g2 g4 g5;generalize H2.next=r8 at *;refine bW fun f D=>?_;have p4:=Ks D a6;have L:=Ks D q5;have p6:=Ks D q6;have p7:f 7=.int .i64 k:=(by subst D;simp only[zB,seval]);have p8:f 8=.ref r8 0:=(by subst D;simp only[zB,seval]);clear D q3 a6 q5 q6;refine aM fun K hK=>?_
     have key:∀(f:dD) (r:aA),f 5=.ref F 0->f 8=.ref r8 0->r.get r8=some (.cells (cO (za l (3*i+k))) false)->(∀j,j≠r8->r.get j=o.get j)->r.next=o.next->K f [] r:=by
      intro f r L p8 w8 we wn;apply hK;clear hK K;have M:=(we F A0).trans u5;have w1:=(we 1 A0).trans B;have w2:=(we 2 A0).trans u2;have w4:=(we r4 A0).trans u4
      have wo:Own r 36 v (mR (NN l) (3*i+k)):=by refine wK R A0 fun j O Z=>?_;rw[we j (by intro h;rw[h,u8] at Z;cases Z)];exact Z
      have ae:=qN (z:=120) A1 A1
      have ii:dN (cO (za l (3*i+k))) (za l (3*i+k)):=by
       unfold za;split
       . exact .add
       exact(is _).neg
      have mk:=rH ii (.enc (z:=120) A1);rw[show rQ (za l (3*i+k)) (some 120)=NN l (3*i+k) from rfl] at mk;obtain⟨H6,q,z2,C,z4,z5⟩:=Has.push (.inr wo) (ys:=[eB (NN l (3*i+k))]) (bytes:=136) rfl (by rw[yJ,Ba,Ca];omega);have W:=fA (NN l (3*i+k));refine Dz ?_;simp only[↓zP,zJ,seval,zD,L,p8,M,w8,lo,oL (lo (za l (3*i+k)))];refine gH (ae _) ?_;simp only[seval];refine gH (mk _) ?_;simp only[↓zP,zJ,seval,zD,L,M,W];rw[show dJ r 36 (.bJ 1 36 [eB (NN l (3*i+k))])=some [eB (NN l (3*i+k))] from rfl];have y1:=(z4 1 A0 (by rw[w1];simp)).trans w1;have y2:=(z4 2 A0 (by rw[w2];simp)).trans w2;have y4:=(z4 r4 A0 (by rw[w4];simp)).trans w4;have y5:=(z4 F A0 (by rw[M];simp)).trans M;simp only[q,bX,zJ,seval,y5,z2];refine⟨by omega,trivial,?_⟩;rw[hJ,show 3*i+(k+1)=(3*i+k)+1 by omega];dsimp only;rw[pr];refine⟨_,.inr ⟨r.next,rfl,by simp only[aA.aZ];omega,by rw[aA.aH,if_neg A0];exact C⟩,?_⟩;simp only[aA.aH,aA.aZ,y1,y2,y4,show ¬(1=F) by omega,show ¬(2=F) by omega,show ¬(r4=F) by omega,Cv,if_true,Ju];omega
     clear hK;by_cases ab:i=k
     . have e:((i:Int)==(k:Int))=true:=(by rw[ab];exact Hg _);have a7:=tU (is (3*i+k)).neg (show dN (cO (trO l)) (trO l) from .add);have iG:nL (wG (se l (3*i+k))) (trO l)=za l (3*i+k):=(by unfold za;rw[if_pos A0]);rw[iG] at a7;simp only[↓zP,zJ,seval,p4,p6,p7,p8,e,u4,u8,lo,oL (lo (trO l)),oL (lo (wG (se l (3*i+k))))];refine fC (a7 _) ?_;simp only[↓zP,zJ,seval,p8,u8,lo];refine key _ _ Zbl (by simp only[zB,seval];exact p8) ?_ ?_ ?_
       . exact ZaR
       . intro j Y;rw[aA.aH,if_neg Y]
       rw[aA.aZ]
     have e:((i:Int)==(k:Int))=false:=(by rw[Cy];omega);have iG:wG (se l (3*i+k))=za l (3*i+k):=(by unfold za;rw[if_neg A0]);rw[iG] at u8;simp only[↓zP,zG,seval,p6,p7,e];exact key _ _ Zbl (by simp only[zB,seval];exact p8) u8 (fun _ _=>rfl) rfl
   rintro f6 H2 E d;exact d
 rintro b H1 E d;rw[hJ] at d;obtain⟨v,S,g5,g,g2,g4,gn⟩:=d;have k2:b 2=.ref 1 0:=by rw[E 2 rfl];simp only[zB,seval];exact f2
 have k5:b 5=.ref F 0:=by rw[E 5 rfl];simp only[zB,seval];exact f5
 have yt:mR (NN l) (3*3)≠[]:=fun h=>by have :=Am List.length h;rw[yJ] at this;cases this
 obtain⟨n,rfl,ym,ak⟩:∃n,v=.bJ (n+2) 36 (mR (NN l) 9)/\n<H1.next/\H1.get n=some .tok:=by
  rcases S with ⟨_,h⟩|h
  . exact absurd h yt
  exact h
 refine Tx ?_;apply hK;clear hK K;refine Wz ?_;have uK:=xM (NN l) 9;refine⟨rfl,_,by simp only[↓zP,zR,seval,k2];rfl,?_⟩;refine⟨_,2,rfl,fun nw=>?_⟩;simp[nN,jB,mJ,NS,uK,GY,AV.free]
def un:Nat->aC.V
 |0=>⟨1,0,0⟩
 |1=>⟨0,1,0⟩
 |_=>⟨0,0,1⟩
theorem BF(i:Nat)(v:aC.V):dot (un i) v=v.at i:=by unfold un aC.V.at;grind[dot]
def Vp(l:List aC.V):Prop:=mS l=0/\∀v∈l,bN (2^12) v
noncomputable def V6 (l:List aC.V):Int:=WL (iI l) (BJ l)
noncomputable def M1 (l:List aC.V) (i:Nat):Int:=mom (un i) (iI l) (BJ l)
noncomputable def S2 (l:List aC.V) (i k:Nat):Int:=aC.sec (un i) (un k) (iI l) (BJ l)
noncomputable def Tr (l:List aC.V):Int:=S2 l 0 0+S2 l 1 1+S2 l 2 2
noncomputable def In (l:List aC.V) (p:Nat):Int:=if p / 3=p%3 then -S2 l (p / 3) (p%3)+Tr l else -S2 l (p / 3) (p%3)
theorem Vp.ou(h:Vp l):Md (iI l) l.length (BJ l)/\KG (iI l) l.length/\BJ l≠[]/\l.length<=64:=by obtain⟨M,_,z,_,U,_,_⟩:=nB h.1;exact⟨aOf M,BA M,fun e=>z (by simp_all[BJ]),U⟩
theorem Wv(l:List aC.V):oY (dY l) (fU l)=(BJ l).flatMap fun e=>lC e.2:=by simp[oY,BJ,List.flatMap_map]
theorem Vp.len(h:Vp l):(oY (dY l) (fU l)).length<=2^12:=by obtain⟨O,Z,_,h4⟩:=h.ou;have :=O.WH Z;rw[Wv];have :l.length*l.length<=64*64:=Be h4 h4;omega
theorem Vp.lt(h:Vp l){t:Nat×Nat×Nat}(q:t∈oY (dY l) (fU l)):t.1<l.length/\t.2.1<l.length/\t.2.2<l.length:=by obtain⟨O,Z,_,_⟩:=h.ou;rw[Wv] at q;obtain⟨e,B,q⟩:=Ed.1 q;obtain⟨k,E,rfl⟩:=Lv.1 q;obtain⟨a1,Q,s,_⟩:=((O.po e B).ZF Z (O.isF B)).2 k E;exact⟨(cJ.1 a1).1,(cJ.1 Q).1,(cJ.1 s).1⟩
theorem Vp.vt(h:Vp l){k:Nat}(E:k<l.length):bN (2^12) (iI l k):=h.2 _ (tp E)
theorem lF{A:Nat}{v:aC.V}(h:bN A v)(i:Nat):(v.at i).natAbs<=A:=by
 unfold aC.V.at;split
 . exact h.1
 . exact h.2.1
 exact h.2.2
theorem Vp.d3(h:Vp l){t:Nat×Nat×Nat}(q:t∈oY (dY l) (fU l)):(nF l t).natAbs<=2^39:=by obtain⟨O,Z,W⟩:=h.lt q;have :=nV (iQ (h.vt O) (h.vt Z)) (h.vt W);show(dot (aY _ _) _).natAbs<=_;omega
theorem tl(h:Vp l):vo l=some (V6 l)/\(V6 l).natAbs<=2^51:=by have U:=h.len;have e:V6 l=dB (nF l) (oY (dY l) (fU l)):=(AO _).symm;have A:(oY (dY l) (fU l)).length*2^39<=2^51:=Ay (Bf _ U) A1;rw[e];exact⟨MT (a:=51) A1 (fun t _=>rfl) (fun t q=>h.d3 q) A,Ay (wR fun t q=>h.d3 q) A⟩
theorem aJd(l:List aC.V)(t:Nat×Nat×Nat)(i:Nat):sI l t i=dot (un i) (aC.add (aC.add (iI l t.1) (iI l t.2.1)) (iI l t.2.2)):=by rw[fV,fV,BF,BF,BF];rfl
theorem Vp.s3(h:Vp l){t:Nat×Nat×Nat}(q:t∈oY (dY l) (fU l))(i:Nat):(sI l t i).natAbs<=3*2^12:=by
 obtain⟨O,Z,W⟩:=h.lt q;have a1:=lF (h.vt O) i;have Q:=lF (h.vt Z) i;have s:=lF (h.vt W) i
 grind[sI]
theorem aHd(h:Vp l)(i:Nat):uC l i (oY (dY l) (fU l))=some (M1 l i)/\(M1 l i).natAbs<=2^65:=by
 have U:=h.len
 have e:M1 l i=dB (fun t=>nF l t*sI l t i) (oY (dY l) (fU l)):=by rw[AO];refine iU fun e _=>iU fun t _=>?_;rw[aJd];rfl
 have X:∀t∈oY (dY l) (fU l),(nF l t*sI l t i).natAbs<=2^53:=fun t q=>Ay (nG (h.d3 q) (h.s3 q i)) A1;have A:(oY (dY l) (fU l)).length*2^53<=2^65:=Ay (Bf _ U) A1;rw[e];exact⟨MT (a:=65) A1 (fun t q=>norm_le (X t q) A1) X A,Ay (wR X) A⟩
theorem bMt(l:List aC.V)(t:Nat×Nat×Nat)(i k:Nat):qI l t i k 3=Q3 (un i) (un k) (iI l t.1) (iI l t.2.1) (iI l t.2.2):=by simp[qI,Q3,vj,aJd,BF]
theorem Vp.q3(h:Vp l){t:Nat×Nat×Nat}(q:t∈oY (dY l) (fU l))(i k:Nat):(qI l t i k 3).natAbs<=12*2^24:=by
 obtain⟨O,Z,W⟩:=h.lt q;have s:=nG (h.s3 q i) (h.s3 q k);have a1:=nG (lF (h.vt O) i) (lF (h.vt O) k);have Q:=nG (lF (h.vt Z) i) (lF (h.vt Z) k);have a:=nG (lF (h.vt W) i) (lF (h.vt W) k)
 grind[qI,vj]
theorem ru(h:Vp l)(p:Nat):se l p=some (S2 l (p / 3) (p%3))/\(S2 l (p / 3) (p%3)).natAbs<=2^79:=by
 have U:=h.len
 have e:S2 l (p / 3) (p%3)=dB (fun t=>nF l t*qI l t (p / 3) (p%3) 3) (oY (dY l) (fU l)):=by rw[AO];refine iU fun e _=>iU fun t _=>?_;rw[bMt];rfl
 have X:∀t∈oY (dY l) (fU l),(nF l t*qI l t (p / 3) (p%3) 3).natAbs<=2^67:=fun t q=>Ay (nG (h.d3 q) (h.q3 q _ _)) A1;have A:(oY (dY l) (fU l)).length*2^67<=2^79:=Ay (Bf _ U) A1;rw[e];exact⟨MT (a:=79) A1 (fun t q=>norm_le (X t q) A1) X A,Ay (wR X) A⟩
theorem aGe(h:Vp l)(p:Nat):za l p=some (In l p)/\(In l p).natAbs<=2^81:=by
 have Y:=ru h 0;have x:=ru h 4;have S:=ru h 8;have i:=ru h p
 have T:nL (se l 0) (se l 4)=some (S2 l 0 0+S2 l 1 1):=by rw[Y.1,x.1];exact norm_le (a:=80) A0 A1
 have P:trO l=some (Tr l):=by unfold trO;rw[T,S.1];exact norm_le (a:=81) (by grind) A1
 have X:(In l p).natAbs<=2^81:=by
  have :=Y.2;have :=x.2;have :=S.2;have :=i.2;unfold In Tr
  grind
 refine⟨?_,X⟩;unfold za;unfold In at X ⊢;split at X
 . rename_i m;rw[if_pos m,if_pos m,P,i.1];exact norm_le X A1
 rename_i m;rw[if_neg m,if_neg m,i.1];rfl
theorem Uh(h:Vp l):0<V6 l:=by obtain⟨O,Z,W,_⟩:=h.ou;exact(O.Zy Z W V0 0 (fun k _=>by simp[dot,V0])).1
theorem ke(h:Vp l)(d:aC.V)(G:aC.V->aC.V->aC.V->Int):dB (fun e=>dB (fun t=>G (iI (mP d l) t.1) (iI (mP d l) t.2.1) (iI (mP d l) t.2.2)) (lC e.2)) (BJ (mP d l))=dB (fun e=>dB (fun t=>G (aC.add d (iI l t.1)) (aC.add d (iI l t.2.1)) (aC.add d (iI l t.2.2))) (lC e.2)) (BJ l):=by
 rw[<-AO (fun t=>G (iI (mP d l) t.1) (iI (mP d l) t.2.1) (iI (mP d l) t.2.2)),<-AO (fun t=>G (aC.add d (iI l t.1)) (aC.add d (iI l t.2.1)) (aC.add d (iI l t.2.2))),aMg d (nB h.1).1];refine iU fun t q=>?_;obtain⟨O,Z,W⟩:=h.lt q;have e:∀k,k<l.length->iI (mP d l) k=aC.add d (iI l k):=fun k E=>sR d E
 grind
theorem bDx(h:Vp l)(d:aC.V):V6 (mP d l)=V6 l:=
 (ke h d D3).trans (h.ou.1.aKl h.ou.2.1 d)
theorem bDq(h:Vp l)(d:aC.V)(i:Nat):M1 (mP d l) i=M1 l i+4*d.at i*V6 l:=by rw[<-BF i d];exact(ke h d fun a b c=>D3 a b c*dot (un i) (aC.add (aC.add a b) c)).trans (h.ou.1.aHe h.ou.2.1 d (un i))
theorem bDw(h:Vp l)(d:aC.V)(i k:Nat):S2 (mP d l) i k=S2 l i k+(5*d.at i*M1 l k+5*d.at k*M1 l i+20*(d.at i*d.at k)*V6 l):=by rw[<-BF i d,<-BF k d];exact(ke h d fun a b c=>D3 a b c*Q3 (un i) (un k) a b c).trans (h.ou.1.aJh h.ou.2.1 d (un i) (un k))
theorem zj{v:List AV}{x:Option Rat}(J:gM v x)(H:aA):Sg 261 [.agg v] H (.ret (.bool (!x.isSome))) H:=by refine So aTj Zbj ?_ H;unfold aLz;dsimp only;have g:=mA J;have X:=oL J.len;refine bP ?_;refine Ty ?_;refine fW ?_;refine Wz ?_;refine bQ ?_;refine Tx ?_;refine Rx ?_;rfl
theorem Ve(x:Nat->Option Rat){n i:Nat}(h:i<n):(mR x n).getD i []=eB (x i):=by simp[mR,List.getD,h]
def ve(x:Nat->Option Rat)(n:Nat):Bool:=(List.range n).any fun p=> !(x p).isSome
variable{x:Nat->Option Rat}{n:Nat}
theorem aOs(C:∀p,p<n->gM (eB (x p)) (x p))(A:n<2^30)(H:aA):∃r:Int,(decide (r≥0)=ve x n)/\Sg 294 [.bJ 0 36 (mR x n),.func (.func 261) [] []] H (.ret (.int .i64 r)) H:=by
 obtain⟨r,V⟩:∃r:Int,r=match (List.range n).find? (fun p=> !(x p).isSome) with
  |some p=>(p:Int)
  |none=> -1:=⟨_,rfl⟩
 have k:(∀p,p<n->(x p).isSome=true)->r= -1:=fun h=>by rw[V,Hr.2 fun p m=>by rw[h p (Ax.1 m)];decide]
 have c:∀p,p<n->(∀q,q<p->(x q).isSome=true)->(x p).isSome=false->r=p:=fun p m D h=>by
  have :(List.range n).find? (fun p=> !(x p).isSome)=some p:=by rw[List.find?_range_eq_some];exact⟨by rw[h];rfl,Ax.2 m,fun j Y=>by rw[D j Y];rfl⟩
  rw[V,this]
 refine⟨r,?_,?_⟩
 . unfold ve;by_cases h:∀p,p<n->(x p).isSome=true
   . rw[k h,Eh.2 fun p m=>by rw[h p (Ax.1 m)];decide];rfl
   obtain⟨p,m⟩:∃p,(List.range n).find? (fun p=> !(x p).isSome)=some p:=by rw[<-Option.isSome_iff_exists,List.find?_isSome];simp only[Classical.not_forall] at h;obtain⟨p,m,h⟩:=h;exact⟨p,Ax.2 m,by simpa using h⟩
   rw[V,m];rw[Ag (show(p:Int)≥0 by omega)];symm;exact Cj.2 ⟨p,Jj m,List.find?_some (p:=fun p=> !(x p).isSome) m⟩
 refine So aTm ZcC ?_ H;unfold aMc;dsimp only;refine bP ?_;refine Tz ?_;refine bQ ?_;refine aM fun K hK=>?_;refine bP ?_;simp only[↓zP,zJ,seval,yJ];refine bQ ?_;refine bS [] (fun i _ H'=>∀q,q<i->(x q).isSome=true) n A0 A1 ?_ ?_ ?_ ?_ ?_
 . exact zq
 . exact zq
 . exact fun q D=>absurd D (Al _)
 . rintro i f H1 F E T Y;have k0:f 0=.bJ 0 36 (mR x n):=E 0 rfl;have k1:f 1=.func (.func 261) [] []:=E 1 rfl;have t:=Ve x F;have W:=oL (fA (x i));have a:=zj (C i F);refine aJ ?_;refine bP ?_;simp only[↓zP,zG,seval,T];refine fW ?_;simp only[↓zP,zG,seval,k0,k1,aD,yJ,F,t,W];refine AX A1 (fs:=[]) (cs:=[]) (fid:=261) zq (by simp only[Cg,Hi,zB,seval,Dt,Bx]) (a _) ?_;refine Tx ?_;refine bQ ?_
   cases M:(x i).isSome with
   |false=>refine Ty ?_;refine Rx ?_;rw[c i F Y M];rfl
   |true=>
    refine Ty ?_;intro q D
    rcases Nat.lt_or_eq_of_le (Nat.le_of_lt_succ D) with h|h
    . exact Y q h
    rw[h];exact M
 rintro f H1 E Y;refine Tx ?_;apply hK;clear hK K;refine Tz ?_;refine Rx ?_;rw[k Y];rfl
theorem aOr(C:∀p,p<n->gM (eB (x p)) (x p))(A:n<2^30)(H:aA):Sg 260 [.bJ 0 36 (mR x n),.func (.func 261) [] []] H (.ret (.bool (ve x n))) H:=by
 refine So aTi ZcC ?_ H;unfold aLy;dsimp only
 obtain⟨r,O,Z⟩:∃r:Int,(decide (r≥0)=ve x n)/\∀H,Sg 294 [.bJ 0 36 (mR x n),.func (.func 261) [] []] H (.ret (.int .i64 r)) H:=by obtain⟨r,O,Z⟩:=aOs C A ⟨0,.nil⟩;exact⟨r,O,fun H=>Z.frame eE ZcC (tk:=none) (fun k E=>by cases E) (n:=0) H (sJ rfl)⟩
 refine bP ?_;refine Tz ?_;refine fW ?_;refine Wz ?_;refine bQ ?_;refine Tx ?_;exact ZaD
theorem YN(C:∀p,p<n->gM (eB (x p)) (x p))(A:n<2^30)(H:aA):Sg 203 [.bJ 0 36 (mR x n)] H (.ret (.bool (!ve x n))) H:=by refine So aTc (by simp only[sf,xM]) ?_ H;unfold aLs;dsimp only;have Z:=aOr C A;refine bP ?_;refine Tz ?_;refine fW ?_;refine Wz ?_;refine bQ ?_;refine Tx ?_;refine Rx ?_;rfl
def mC(x:Nat->Option Rat):List AV:=[.int .i64 3,.int .i64 3,.bJ 0 36 (mR x 9)]
theorem sP(x:Nat->Option Rat):cW (mC x)=true:=by simp only[mC,sf,xM]
def Ua(x:Nat->Option Rat):Prop:=(∀p,p<9->gM (eB (x p)) (x p))/\ve x 9=false
theorem zh(C:Ua x)(H:aA):Sg 202 [.agg (mC x)] H (.ret (.int .i64 0)) H:=by refine So aTb ZbG ?_ H;unfold aLr;dsimp only;have t:=YN C.1 A1;rw[C.2] at t;refine bP ?_;refine Ty ?_;refine bQ ?_;have e:IntKind.i64.wrap 9=9:=rfl;refine bP ?_;refine aJ ?_;have g0:(mC x).getD 0 aB=.int .i64 3:=rfl;have g:(mC x).getD 1 aB=.int .i64 3:=rfl;have d:(mC x).getD 2 aB=.bJ 0 36 (mR x 9):=rfl;have a:(mC x).length=3:=rfl;have R:decide ((3:Int)<0)=false:=rfl;have L:decide ((3:Int)>200)=false:=rfl;have k:((9:Int) != 9)=false:=rfl;refine bP ?_;simp only[↓zP,zJ,seval,g0,g,a,Iw];refine bQ ?_;have := @yJ;refine Wz ?_;refine bQ ?_;refine Tz ?_;refine Rx ?_;rfl
theorem ib(C:Ua x)(H:aA):Sg 201 [.agg (mC x)] H (.ret (.bool false)) H:=by refine So aTa ZbG ?_ H;unfold aLq;dsimp only;have g:=zh C;have X:=oL (show(mC x).length=3 from rfl);refine bP ?_;refine Ty ?_;refine fW ?_;have :((0:Int) != 0)=false:=rfl;refine Wz ?_;refine bQ ?_;refine Tx ?_;refine Rx ?_;rfl
def mL(l:List (Nat->Option Rat)):List (List AV):=l.map mC
theorem aGx(l:List (Nat->Option Rat)):(mL l).length=l.length:=by simp[mL]
variable{l:List (Nat->Option Rat)}
theorem bBy{i:Nat}(h:i<l.length):(mL l).getD i []=mC l[i]:=by simp[mL,List.getD,h]
theorem aOt(l:List (Nat->Option Rat)):fN (mL l)=true:=dP sP l
theorem gg{tag:Nat}(q:Nat.blt tag 2=true)(l:List (Nat->Option Rat)):(AV.bJ tag 3 (mL l)).free=true:=by simp only[AV.free,q,Dk];exact aOt l
theorem aGw(C:∀x∈l,Ua x)(A:l.length<2^30){tag:Nat}(q:Nat.blt tag 2=true)(H:aA):Sg 259 [.bJ tag 3 (mL l),.func (.func 201) [] []] H (.ret (.int .i64 (-1))) H:=by
 refine So aTh (by simp only[sf,gg q];rfl) ?_ H;unfold aLx;dsimp only;refine bP ?_;refine Tz ?_;refine bQ ?_;refine aM fun K hK=>?_;refine bP ?_;simp only[↓zP,zJ,seval,aGx];refine bQ ?_;refine bS [] (fun i _ H'=>True) l.length A0 A1 ?_ ?_ ?_ ?_ ?_
 . exact zq
 . exact zq
 . trivial
 . rintro i f H1 F E T Y;have k0:f 0=.bJ tag 3 (mL l):=E 0 rfl;have k1:f 1=.func (.func 201) [] []:=E 1 rfl;have t:=bBy F;have a:=ib (C _ (Ac F));generalize l[i]=x at *;have W:=oL (show(mC x).length=3 from rfl);refine aJ ?_;refine bP ?_;refine Wy ?_;refine fW ?_;have := @aGx;refine Wy ?_;refine AX A1 (fs:=[]) (cs:=[]) (fid:=201) zq (by simp only[Cg,Hi,zB,seval,Dt,Bx]) (a _) ?_;refine Tx ?_;refine bQ ?_;exact Zbx
 rintro f H1 E Y;refine Tx ?_;apply hK;clear hK K;refine Tz ?_;exact ZaD
theorem aGv(C:∀x∈l,Ua x)(A:l.length<2^30){tag:Nat}(q:Nat.blt tag 2=true)(H:aA):Sg 200 [.bJ tag 3 (mL l),.func (.func 201) [] []] H (.ret (.bool false)) H:=by refine So aSz (by simp only[sf,gg q];rfl) ?_ H;unfold aLp;dsimp only;have Z:=aGw C A q;refine bP ?_;refine Tz ?_;refine fW ?_;refine Wz ?_;refine bQ ?_;refine Tx ?_;refine Rx ?_;rfl
theorem Tj(C:∀x∈l,Ua x)(A:l.length<2^30){tag:Nat}(q:Nat.blt tag 2=true)(H:aA):Sg 115 [.bJ tag 3 (mL l)] H (.ret (.bool true)) H:=by refine So aSj (by simp only[sf,gg q]) ?_ H;unfold aKz;dsimp only;have Z:=aGv C A q;refine bP ?_;refine Tz ?_;refine fW ?_;refine Wz ?_;refine bQ ?_;refine Tx ?_;refine Rx ?_;rfl
theorem fy(x:Nat->Option Rat){i k:Nat}(F:i<3)(E:k<3)(H:aA):Sg 116 [.agg (mC x),.int .i64 i,.int .i64 k] H (.ret (.agg (eB (x (3*i+k))))) H:=by
 refine Sp aSk ZbG Zat ?_ H;unfold aLa;dsimp only;simp only[lJ];have g:(mC x).getD 1 aB=.int .i64 3:=rfl;have d:(mC x).getD 2 aB=.bJ 0 36 (mR x 9):=rfl;have a:(mC x).length=3:=rfl;have w1:IntKind.i64.wrap ((i:Int)*3)=((i*3:Nat):Int):=wI A0;have w2:IntKind.i64.wrap (((i*3:Nat):Int)+(k:Int))=((3*i+k:Nat):Int):=wI A0;have m:3*i+k<9:=by omega
 have t:=Ve x m;have W:=oL (fA (x (3*i+k)));refine bP ?_;refine Ty ?_;refine fW ?_;have := @yJ;have :=oL gT;refine Wz ?_;refine bQ ?_;refine Tx ?_;refine⟨rfl,_,by simp only[↓zP,zR,seval,W];rfl,?_⟩;rfl
end Go.Proofs.YtogfcjbgeebfkaaGreatDoor
namespace Go.Proofs.YtogfcjbgeebfkaaGreatDoor
open Go Go.Av
def aVn:CW Tryz.f166:=⟨_,dI⟩
theorem bHq:Fi 166 aVn:=dK Tryz.func166 aVn
def W79:CW Tryz.f79:=⟨_,dI⟩
theorem bQw:Fi 79 W79:=dK Tryz.func79 W79
end Go.Proofs.YtogfcjbgeebfkaaGreatDoor
namespace Go.Proofs.YtogfcjbgeebfkaaGreatDoor
open Go Go.Av Go.jG Go.aC
attribute [local congr] aX aQ aR aL bA aW aS aG bB
attribute [local irreducible] FC bT eI
variable{x:Nat->Option Rat}
theorem aGu{y:Nat->Option Rat}(C:Ua x)(Q:Ua y){i k r s:Nat}(F:i<3)(E:k<3){H:aA}(V:H.get r=some (.cells (mC x) false))(M:H.get s=some (.cells (mC y) false))(L:r<H.next)(w:s<H.next)(N:bH H):
 ∃H',Sg 166 [.int .i64 i,.int .i64 k,.ref r 0,.ref s 0] H (.ret (.agg (eB (kY (x (3*i+k)) (y (3*i+k)))))) H'/\Over H H'/\bH H':=by
 have a1:=fy x F E;have c:=fy y F E;have m:3*i+k<9:=by omega
 have q:=GF (C.1 _ m) (Q.1 _ m);have U:=oL (show(mC x).length=3 from rfl);have K:=oL (show(mC y).length=3 from rfl);have W:=oL (fA (kY (x (3*i+k)) (y (3*i+k))))
 obtain⟨_,H',⟨rfl,h⟩,u⟩:=dM (R:=fun o H'=>o=.ret (.agg (eB (kY (x (3*i+k)) (y (3*i+k)))))/\Over H H'/\bH H') fit bHq (args:=[.int .i64 i,.int .i64 k,.ref r 0,.ref s 0]) (H:=H) (Ai rfl) (by
  unfold aVn;dsimp only;simp only[lJ];refine bP ?_;refine Tz ?_;refine bQ ?_;generalize G:aA.alloc H _=I;have X:I.get r=some (.cells (mC x) false):=by subst G;rw[aA.aI,if_neg A0];exact V
  have d:I.get s=some (.cells (mC y) false):=by subst G;rw[aA.aI,if_neg A0];exact M
  have l:I.get H.next=some (.cells Mc false):=by subst G;rw[aA.aI,if_pos rfl]
  have S:Over H I:=by subst G;exact(Over.refl H).alloc _
  have b:bH I:=by subst G;exact N.alloc _
  have a:H.next<I.next:=by subst G;simp only[aA.bK];omega
  clear G;refine bP ?_;refine Dz ?_;have :=oL gT;refine Wz ?_;refine bQ ?_;refine Tx ?_;refine⟨rfl,_,by simp only[↓zP,zR,seval,W];rfl,?_⟩
  exact⟨rfl,S.set (Ae _) _,b.set a _⟩)
 exact⟨H',u,h⟩
variable{c:Option Rat}
theorem gh(C:Ua x)(e:gM (eB c) c){i k r s:Nat}(F:i<3)(E:k<3){H:aA}(V:H.get r=some (.cells (mC x) false))(M:H.get s=some (.cells (eB c) false))(L:r<H.next)(w:s<H.next)(N:bH H):
 ∃H',Sg 167 [.int .i64 i,.int .i64 k,.ref r 0,.ref s 0] H (.ret (.agg (eB (lB (x (3*i+k)) c)))) H'/\Over H H'/\bH H':=by
 have a1:=fy x F E;have m:3*i+k<9:=by omega
 have q:=sU (C.1 _ m) e;have U:=oL (show(mC x).length=3 from rfl);have K:=oL (fA c);have W:=oL (fA (lB (x (3*i+k)) c))
 obtain⟨_,H',⟨rfl,h⟩,u⟩:=dM (R:=fun o H'=>o=.ret (.agg (eB (lB (x (3*i+k)) c)))/\Over H H'/\bH H') fit aSt (args:=[.int .i64 i,.int .i64 k,.ref r 0,.ref s 0]) (H:=H) (Ai rfl) (by
  unfold aLj;dsimp only;simp only[lJ];refine bP ?_;refine Tz ?_;refine bQ ?_;generalize G:aA.alloc H _=I;have X:I.get r=some (.cells (mC x) false):=by subst G;rw[aA.aI,if_neg A0];exact V
  have d:I.get s=some (.cells (eB c) false):=by subst G;rw[aA.aI,if_neg A0];exact M
  have l:I.get H.next=some (.cells Mc false):=by subst G;rw[aA.aI,if_pos rfl]
  have S:Over H I:=by subst G;exact(Over.refl H).alloc _
  have b:bH I:=by subst G;exact N.alloc _
  have a:H.next<I.next:=by subst G;simp only[aA.bK];omega
  clear G;refine bP ?_;refine Dz ?_;have :=oL gT;refine Wz ?_;refine bQ ?_;refine Tx ?_;refine⟨rfl,_,by simp only[↓zP,zR,seval,W];rfl,?_⟩
  exact⟨rfl,S.set (Ae _) _,b.set a _⟩)
 exact⟨H',u,h⟩
variable{H:aA}
theorem ug{P:Program}{g:bL}{n:Nat}{pairs:List (Nat×Nat)}{base:Nat}{i k:Nat}{X:List bG}{a:List (Nat×Nat)}{p:List (Nat×aA×aA)}{f:dD}{R:dD->aA->Prop}
 {d:Nat} {c:Arg} {fid:FuncId} {fs cs:List AV} {xs:List Arg} {args:List AV} {v:AV} {H':aA} (hd:d<n) (b:oG g f c=.func (.func fid) fs cs) (I:fs++xs.map (oG g f)++cs=args) (u:Sound P g fid args H (.ret v) H') (A:H.next<=H'.next)
 (V:∀x∈a,(x.1,i)∈pairs->H.get x.2=H'.get x.2)
 (h:eI P g n pairs base (i+1) k X a ((i,H,H')::p) (kI f d v) H' R):eI P g n pairs base i k (⟨some d,.call c xs,none⟩::X) a p f H R:=by
 have :∀v,gK n f (some d) v=kI f d v:=fun v=>by simp[gK,hd]
 unfold eI;rw[if_pos (by rfl)];simp only[this];refine⟨v,H',?_,A,V,h⟩;exact⟨(fid,fs,cs),by rw[b];rfl,by rw[I];exact u⟩
def Kp(N:Nat)(H H':aA):Prop:=H.next<=H'.next/\∀id,id<N->H.get id≠some .tok->H'.get id=H.get id
theorem Kp.of{N:Nat}{H1:aA}(h:Over H H1)(F:N<=H.next):Kp N H H1:=⟨h.le,fun id a _=>h.same id (Bg a F)⟩
theorem Xc:∀a b:List AV,qF (a++b)=qF a++qF b
 |[],b=>rfl
 |x::a,b=>by simp only[Gk,qF,Xc a b]
theorem aZb(l:List Nat):qF (wC l)=wC l:=by
 induction l with
 |nil=>rfl
 |cons x l z=>simp only[wC,Cg,qF,ct] at *;rw[z]
theorem aYy(z:Int):qF (cI z)=cI z:=by simp only[cI,qF,ct,aZb]
theorem aNo(x:Option Rat):qF (eB x)=eB x:=by
 cases x with
 |none=>rfl
 |some q=>simp only[eB,cQ,Xc,aYy]
theorem aZa(x:Nat->Option Rat)(n:Nat):vR (mR x n)=mR x n:=by
 unfold mR
 induction List.range n with
 |nil=>rfl
 |cons p l z=>simp only[Cg,vR,z,aNo]
theorem pt{H0:aA}{Q:aA->Prop}(Y:∀H H',Q H->Kp H0.next H H'->Q H'){y:Nat->Option Rat}(hy:Ua y){fid:FuncId}{cs:List AV}
 (U:∀H,Q H->bH H->∀i k:Nat,i<3->k<3->∃H',Sg fid ([.int .i64 i,.int .i64 k]++cs) H (.ret (.agg (eB (y (3*i+k))))) H'/\Over H H'/\bH H') (h0:Q H0) (a7:bH H0):
 ∃n H',Sg 117 [.int .i64 3,.int .i64 3,.func (.func fid) [] cs] H0 (.ret (.jS [.agg [.int .i64 3,.int .i64 3,.bJ (n+2) 36 (mR y 9)],.int .i64 0])) H'/\Q H'/\n<H'.next/\H'.get n=some .tok:=by
 obtain⟨o,H',⟨n,rfl,h⟩,u⟩:=dM (R:=fun o H'=>∃n,o=.ret (.jS [.agg [.int .i64 3,.int .i64 3,.bJ (n+2) 36 (mR y 9)],.int .i64 0])/\Q H'/\n<H'.next/\H'.get n=some .tok) fit aSl (args:=[.int .i64 3,.int .i64 3,.func (.func fid) [] cs]) (H:=H0) (Ai rfl) (by
  unfold aLb;dsimp only;refine bP ?_;refine Tz ?_;refine fW ?_;refine Ty ?_;refine bQ ?_;generalize G:aA.set _ _ _=V;have c6:V.get H0.next=some (.cells [.int .i64 0,.int .i64 0,.bE] false):=by subst G;rw[aA.aH,if_neg A0,aA.aI,if_neg Zao,aA.aI,if_pos rfl]
  have c8:V.get (H0.next+1)=some (.cells [.int .i64 3,.int .i64 3,.bE] false):=by subst G;rw[aA.aH,if_pos rfl];try rfl
  have B:H0.next+1<V.next:=by subst G;simp only[aA.aZ,aA.bK];omega
  have ae:Over H0 V:=by subst G;exact(((Over.refl H0).alloc _).alloc _).set A0 _
  have cF:bH V:=by subst G;exact((a7.alloc _).alloc _).set Zao _
  clear G;have ad:=Y _ _ h0 (.of ae (Ae _));generalize H0.next=T at *;obtain⟨w,a6⟩:∃w,w=T+1:=⟨_,rfl⟩;rw[<-a6] at c8 B;refine bW fun f D=>?_;have A:f 0=.int .i64 3:=by subst D;simp only[zB,seval,fD,Dj]
  have b:f 1=.int .i64 3:=by subst D;simp only[zB,seval,fD,Dj,Hl]
  have s:f 2=.func (.func fid) [] cs:=by subst D;simp only[zB,seval,fD,Dj,Hl]
  have L:f 6=.ref T 0:=by subst D;simp only[zB,seval]
  have M:f 8=.ref w 0:=by subst D;simp only[zB,seval];rw[a6]
  clear D
  obtain⟨J,r⟩:∃J:Nat->aA->Prop,J=fun m H'=>∃v,Own H' 36 v (mR y m)/\H'.get w=some (.cells [.int .i64 3,.int .i64 3,v] false)/\H'.get T=some (.cells [.int .i64 0,.int .i64 0,.bE] false)/\Q H'/\bH H'/\w<H'.next:=⟨_,rfl⟩
  have j0:J 0 V:=by rw[r];exact⟨.bE,.nil _ _,c8,c6,ad,cF,B⟩
  refine aM fun K hK=>?_;refine bP ?_;refine Wy ?_;refine bQ ?_;refine bS [] (fun i _ H'=>J (3*i) H') 3 A1 A1 ?_ ?_ ?_ ?_ ?_
  . exact zq
  . exact zq
  . exact j0
  . rintro i g Ha JJ E t j0;have k1:g 1=.int .i64 3:=by rw[E 1 rfl];simp only[zB,seval];exact b
    have k2:g 2=.func (.func fid) [] cs:=(by rw[E 2 rfl];simp only[zB,seval];exact s);have k8:g 8=.ref w 0:=(by rw[E 8 rfl];simp only[zB,seval];exact M);clear E;refine aJ ?_;refine bP ?_;simp only[↓zP,zG,seval,t];refine fW ?_;simp only[↓zP,zG,seval,k1];refine bQ ?_;refine bS [] (fun k _ H'=>J (3*i+k) H') 3 A1 A1 ?_ ?_ ?_ ?_ ?_
    . exact zq
    . exact zq
    . exact j0
    . rintro k X Hb gA E P d;have q2:X 2=.func (.func fid) [] cs:=(by rw[E 2 rfl];simp only[zB,seval];exact k2);have q8:X 8=.ref w 0:=(by rw[E 8 rfl];simp only[zB,seval];exact k8);have q9:X 9=.int .i64 i:=E 9 rfl;clear E;rw[r] at d;obtain⟨v,S,g8,F,gQ,gF,l⟩:=d;refine aJ ?_;refine bP ?_;simp only[↓zP,zG,seval,P];refine bQ ?_;obtain⟨Hc,S1,o1,ab⟩:=U Hb gQ gF i k JJ gA;refine Dz ?_;simp only[↓zP,zJ,seval,zD,q2,q8,q9,g8];refine ug (fid:=fid) (fs:=[]) (cs:=cs) A1 (by simp only[jM,zB,seval]) (by simp only[Cg,Hi,Dt,jM,zB,seval]) S1 o1.le ?_ ?_
      . intro x C _;rw[Bw] at C;subst C;exact(o1.same w l).symm
      have z:=(o1.same w l).trans g8;have p:=(o1.same T A0).trans F;have wQ:=Y _ _ gQ (.of o1 A0);have wn:=Bg l o1.le;have wo:Own Hc 36 v (mR y (3*i+k)):=wK S o1.le fun j O Z=>by rw[o1.same j O];exact Z
      obtain⟨H6,q,c,z3,z4,N⟩:=Has.push (.inr wo) (ys:=[eB (y (3*i+k))]) (bytes:=136) rfl (by rw[yJ,Ba,Ca];omega);have W:=fA (y (3*i+k));simp only[↓zP,zJ,seval,zD,q8,z,W];rw[show dJ Hc 36 (.bJ 1 36 [eB (y (3*i+k))])=some [eB (y (3*i+k))] from rfl];have y8:=(z4 w wn (by rw[z];simp)).trans z;have y6:=(z4 T A0 (by rw[p];simp)).trans p;simp only[q,bX,zJ,seval,y8,c];refine⟨by omega,trivial,?_⟩;rw[r,show 3*i+(k+1)=(3*i+k)+1 by omega];dsimp only;rw[pr];refine⟨_,.inr ⟨Hc.next,rfl,by simp only[aA.aZ];omega,by rw[aA.aH,if_neg A0];exact z3⟩,?_⟩;refine⟨by rw[aA.aH,if_pos rfl],by rw[aA.aH,if_neg A0];exact y6,Y _ _ wQ ⟨by simp only[aA.aZ];omega,fun id O Z=>?_⟩,(N ab).set A0 _,by simp only[aA.aZ];omega⟩;rw[aA.aH,if_neg A0];exact z4 id A0 Z
    rintro X Hb E d;exact d
  rintro g Ha E d;rw[r] at d;obtain⟨v,S,g8,F,gQ,gF,l⟩:=d;have k6:g 6=.ref T 0:=by rw[E 6 rfl];simp only[zB,seval];exact L
  have k8:g 8=.ref w 0:=by rw[E 8 rfl];simp only[zB,seval];exact M
  have yt:mR y (3*3)≠[]:=fun h=>by have :=Am List.length h;rw[yJ] at this;cases this
  obtain⟨n,rfl,I,a⟩:∃n,v=.bJ (n+2) 36 (mR y 9)/\n<Ha.next/\Ha.get n=some .tok:=by
   rcases S with ⟨_,h⟩|h
   . exact absurd h yt
   exact h
  have hg:∀H,Sg 203 [.bJ (n+2) 36 (mR y 9)] H (.ret (.bool true)) H:=fun H=>by
   apply Sound.ct;have e:qF [AV.bJ (n+2) 36 (mR y 9)]=[.bJ 0 36 (mR y 9)]:=(by simp only[qF,ct,aZa]);rw[e];have :=YN hy.1 A1 H
   rwa [hy.2] at this
  refine Tx ?_;apply hK;clear hK K;refine bP ?_;simp only[↓zP,zJ,seval,k8,g8];refine fC (hg _) ?_;refine Ty ?_;refine fW ?_;simp only[↓zP,zJ,seval,k6,k8,g8,F];refine bQ ?_;refine Tx ?_;refine⟨rfl,_,by simp only[↓zP,zR,seval,k6];rfl,?_⟩;refine⟨n,rfl,Y _ _ gQ ⟨by simp only[aA.aZ];exact Ae _,fun id O Z=>by rw[aA.aH,if_neg A0]⟩,by simp only[aA.aZ];exact I,?_⟩;rw[aA.aH,if_neg]
  . exact a
  rintro rfl;rw[F] at a
  cases a)
 exact⟨n,H',u,h⟩
theorem aOq{y:Nat->Option Rat}(C:Ua x)(c:Ua y)(M:Ua fun p=>kY (x p) (y p))(H:aA):Sg 79 [.agg (mC x),.agg (mC y)] H (.ret (.jS [.agg (mC fun p=>kY (x p) (y p)),.int .i64 0])) H:=by
 refine eP fit eE bQw (Ai rfl) ZbG ?_ H;unfold W79;dsimp only;have J:∀H,Sg 115 [.bJ 1 3 (mL [x,y])] H (.ret (.bool true)) H:=Tj (l:=[x,y]) (fun z s=>by simp only[Bd,Ci,Fe] at s;rcases s with rfl|rfl;exact C;exact c) (show 2<2^30 by decide) (tag:=1) rfl
 replace J:∀H,Sg 115 [.bJ 1 3 [mC x,mC y]] H (.ret (.bool true)) H:=J
 have U:∀x,(mC x).length=3:=fun _=>rfl;have g0:∀x,(mC x).getD 0 aB=.int .i64 3:=fun _=>rfl;have g:∀x,(mC x).getD 1 aB=.int .i64 3:=fun _=>rfl;have K:=fun x=>oL (U x);refine bP ?_;refine Ty ?_;refine fW ?_;refine Wz ?_;have m:((3:Int) != 3)=false:=rfl;refine Wz ?_;refine bQ ?_;generalize G:(((aA.mk 0 .nil).alloc _).alloc _).alloc _=I;have h:=Kv (i:=0) G;have a1:=Kv (i:=1) G;have f:=Kv (i:=2) G;have r:I.next=3:=by subst G;rfl
 have b:bH I:=by subst G;exact(((bH.nil _).alloc _).alloc _).alloc _
 clear G
 obtain⟨n,H',S,⟨j,q1,q2,e⟩,A,q⟩:=pt (H0:=I) (Q:=fun H=>H.get 0=some (.cells (mC x) false)/\H.get 1=some (.cells (mC y) false)/\H.get 2=some (.cells [.int .i64 0,.int .i64 0,.bE] false)/\3<=H.next)
  (fun H H' ⟨o,O,Z,W⟩ E=>⟨(E.2 0 A0 (by rw[o];simp)).trans o,(E.2 1 A0 (by rw[O];simp)).trans O,(E.2 2 A0 (by rw[Z];simp)).trans Z,Ay W E.1⟩) M (fid:=166) (cs:=[.ref 0 0,.ref 1 0])
  (fun H ⟨o,O,_,W⟩ N i k F E=>aGu C c F E o O A0 A0 N) ⟨h,a1,f,by omega⟩ b
 refine bP ?_;refine Wz ?_;refine bQ ?_;refine Tx ?_;refine Rx ?_;have a:=xM (fun p=>kY (x p) (y p)) 9;refine⟨_,2,rfl,fun d=>?_⟩;simp[nN,jB,mJ,NS,a,GY,AV.free,mC]
theorem zi(C:Ua x)(R:gM (eB c) c)(O:c.isSome=true)(M:Ua fun p=>lB (x p) c)(H:aA):Sg 80 [.agg (mC x),.agg (eB c)] H (.ret (.jS [.agg (mC fun p=>lB (x p) c),.int .i64 0])) H:=by
 refine eP fit eE bLd (Ai rfl) (by simp only[sf,sP,cS]) ?_ H;unfold W80;dsimp only;have J:∀H,Sg 115 [.bJ 1 3 (mL [x])] H (.ret (.bool true)) H:=Tj (l:=[x]) (fun z s=>by rw[Bw] at s;rw[s];exact C) (show 1<2^30 by decide) (tag:=1) rfl
 replace J:∀H,Sg 115 [.bJ 1 3 [mC x]] H (.ret (.bool true)) H:=J
 have j:=mA R;rw[O] at j;have U:∀x,(mC x).length=3:=fun _=>rfl;have g0:∀x,(mC x).getD 0 aB=.int .i64 3:=fun _=>rfl;have g:∀x,(mC x).getD 1 aB=.int .i64 3:=fun _=>rfl;have K:=fun x=>oL (U x);have r:=oL (fA c);refine bP ?_;refine Ty ?_;refine fW ?_;refine Wz ?_;refine bQ ?_;generalize G:(((aA.mk 0 .nil).alloc _).alloc _).alloc _=I;have h:=Kv (i:=0) G;have a1:=Kv (i:=1) G;have f:=Kv (i:=2) G;have t:I.next=3:=by subst G;rfl
 have b:bH I:=by subst G;exact(((bH.nil _).alloc _).alloc _).alloc _
 clear G
 obtain⟨n,H',S,⟨m,q1,q2,e⟩,A,q⟩:=pt (H0:=I) (Q:=fun H=>H.get 0=some (.cells (mC x) false)/\H.get 1=some (.cells (eB c) false)/\H.get 2=some (.cells [.int .i64 0,.int .i64 0,.bE] false)/\3<=H.next)
  (fun H H' ⟨o,O,Z,W⟩ E=>⟨(E.2 0 A0 (by rw[o];simp)).trans o,(E.2 1 A0 (by rw[O];simp)).trans O,(E.2 2 A0 (by rw[Z];simp)).trans Z,Ay W E.1⟩) M (fid:=167) (cs:=[.ref 0 0,.ref 1 0])
  (fun H ⟨o,O,_,W⟩ N i k F E=>gh C R F E o O A0 A0 N) ⟨h,a1,f,by omega⟩ b
 refine bP ?_;refine Wz ?_;refine bQ ?_;refine Tx ?_;refine Rx ?_;have a:=xM (fun p=>lB (x p) c) 9;refine⟨_,2,rfl,fun d=>?_⟩;simp[nN,jB,mJ,NS,a,GY,AV.free,mC]
end Go.Proofs.YtogfcjbgeebfkaaGreatDoor
