/-
  Part of the proof of statement 10
-/
import Derived.Test.YtndkpgceodimiaaGreatDoorA32
import Derived.Test.YtndkpgceodimiaaGreatDoorA33
import Derived.Test.YtndkpgceodimiaaGreatDoorA26
import Derived.Test.YtndkpgceodimiaaGreatDoorA07
import Derived.Test.YtndkpgceodimiaaGreatDoorA17
set_option linter.unusedVariables false
set_option maxRecDepth 100000
set_option maxHeartbeats 16000000
namespace Go.Proofs.YtndkpgceodimiaaGreatDoor
open Go Go.Av Go.aI Go.sK
attribute [local congr] aV aO aP aL aX aR aQ aH aY
attribute [local irreducible] FC bY eX
theorem mw {tag:Nat} (ht:Nat.blt tag 2=true) {l:List aI.V} {M:Nat} (hl:∀v∈l,bT M v) (hM:M<=2^18) {E:List (Nat×Nat)} (hEl:E.length<=2^20) (hE0:E≠[]) (hE:∀p∈E,p.1<l.length/\p.2<l.length)
 (hS:∀H,Sg 183 [.agg [.aU tag 3 (bS l)]] H (.ret (kC 2 ((E.map pN).map pC))) H) (H:aA):
 Sg 126 [.agg [.aU tag 3 (bS l)]] H (.ret (.aU 0 3 (bS (E.map (DE l))))) H:=by
 refine dL fit eU aVn (Aj rfl) (by simp only[sf,cV ht]) ?_ H;unfold aLb;dsimp only;have cT:∀k (h:k<l.length),l.getD k V0=l[k]:=fun k h=>by simp[List.getD,h]
 rw[show kC 2 ((E.map pN).map pC)=.aU 0 2 ((E.map pN).map pC) from if_neg (by simpa using hE0)] at hS;simp only[↓zP,zJ,seval];refine bW (hS _) ?_;simp only[↓zP,zG,seval];refine bN [3] (fun i vs H'=>∃v,vs=[v]/\Own H' 3 v (bS ((E.take i).map (DE l)))/\1<=H'.next/\H'.get 0=some (.cells [.aU tag 3 (bS l)] false)) 0 E.length (Az _) (by omega) (by decide) ?_ ?_ ?_ ?_ ?_
 · simp only[zB,seval]
 · exact⟨.aS,by simp only[sm,zB,seval],.nil _ _,by simp only[zI,seval],by simp only[zI,seval]⟩
 · rintro i f H1 h0 hi hk e1 _;have f4:f 4=.aU 0 2 ((E.map pN).map pC):=hk 4 rfl;simp only[↓zP,zG,seval,e1,f4,Ai];exact tB (by omega)
 · rintro i f H1 h0 hi hk e1 ⟨v,hv,ho,hn,g0⟩;simp only[zM] at hv;have f1:f 1=.ref 0 0:=hk 1 rfl;have f4:f 4=.aU 0 2 ((E.map pN).map pC):=hk 4 rfl;have hg:((E.map pN).map pC).getD i []=pC (pN E[i]):=by rw[En];exact eR hi
   obtain⟨ha,hb⟩:=hE _ (Ac hi)
   have nM:(E.take (i+1)).map (DE l)=(E.take i).map (DE l)++[DE l E[i]]:=by rw[Al,Cf];simp[hi]
   have MR:((E.take i).map (DE l)).length<=2^20:=(by simp;omega);have hEm:((E.map pN).map pC).length=E.length:=(by rw[Ai,Ai]);rw[nM];generalize (E.take i).map (DE l)=els at *;generalize E[i]=p at *;have ga:=cF ha;have gb:=cF hb;have na:=hl _ (Ac ha);have nb:=hl _ (Ac hb);have AN:aI.sub l[p.2] l[p.1]=DE l p:=(by simp only[DE,cT p.2 hb,cT p.1 ha]);have q0:(pC (pN p)).getD 0 aD=.int .i64 (p.1:Int):=rfl;have q1:(pC (pN p)).getD 1 aD=.int .i64 (p.2:Int):=rfl;have r1:(List.drop 1 (pC (pN p))).getD 0 aD=.int .i64 (p.2:Int):=rfl;have r2:1<=(List.drop 1 (pC (pN p))).length:=Ak _;have ta:(cG l[p.1]).take 3=cG l[p.1]:=rfl;have tb:(cG l[p.2]).take 3=cG l[p.2]:=rfl;obtain⟨H5,z1,z2,z3,z4,z5⟩:=Has.push (.inr ho) (ys:=[cG (DE l p)]) (bytes:=24) rfl (by rw[aN,Aq,Bj];omega);refine aF ?_;refine Dz ?_;simp only[↓zP,zJ,seval,zD,f1,f4,e1,hv,g0,hEm,hi,hg,Oo,q0,r1,r2,nC,aB,aN,ha,hb,ga,gb,oL (aM l[p.1]),oL (aM l[p.2])];refine eE (xF nb na (by omega) _) ?_;rw[AN];simp only[↓zP,zJ,seval,zD,oL (aM (DE l p))];rw[eL];simp only[z1,bZ,seval];rw[show bS (els++[DE l p])=bS els++[cG (DE l p)] from by simp[bS]];exact⟨by omega,_,rfl,.inr ⟨H1.next,rfl,by omega,z3⟩,by omega,(z4 0 (by omega) (by rw[g0];simp)).trans g0⟩
 rintro f H1 hk ⟨v,hv,ho,hn,g0⟩;simp only[zM] at hv;rw[Ao] at ho;simp only[↓zP,seval,hv];refine Rx ?_;refine⟨v,0,rfl,fun nw=>?_⟩;have cK:bS (E.map (DE l))≠[]:=by simpa [bS] using hE0
 rcases ho with ⟨_,h⟩|⟨k,rfl,h1,h2⟩
 · exact absurd h cK
 have JX:dM (bS (E.map (DE l)))=true:=dW cE _;simp[gK,fU,JX,FW]
theorem zf {on:List Nat} {a b:Nat}:EH on on.length a b=true↔aI.Next on a b\/aI.Next on b a:=by
 have hg:∀(i x:Nat),i<on.length->(on.getD i 0=x↔on[i]?=some x):=fun i x h=>by simp[List.getD,h]
 simp only[EH,Bu,Ba,Dp,Am,Da,aI.Next];constructor
 · rintro⟨i,hi,h⟩;have hm:(i+1)%on.length<on.length:=Dg _ (by omega)
   rcases h with ⟨h1,h2⟩|⟨h1,h2⟩
   · exact .inl ⟨i,hi,(hg i a hi).1 h1,(hg _ b hm).1 h2⟩
   exact .inr ⟨i,hi,(hg i b hi).1 h1,(hg _ a hm).1 h2⟩
 rintro(⟨i,hi,h1,h2⟩|⟨i,hi,h1,h2⟩)
 · have hm:(i+1)%on.length<on.length:=Dg _ (by omega);exact⟨i,hi,.inl ⟨(hg i a hi).2 h1,(hg _ b hm).2 h2⟩⟩
 have hm:(i+1)%on.length<on.length:=Dg _ (by omega);exact⟨i,hi,.inr ⟨(hg i b hi).2 h1,(hg _ a hm).2 h2⟩⟩
theorem bx {S:List (aI.V×Int)} {L:aI.V×Int->List Nat} {N:Nat} {x:Int×Int}:
 x∈Ph S L N N↔∃a b:Nat,a<b/\b<N/\Po S L a b=true/\x=pN (a,b):=by
 simp only[Ph,FJ,Fa,Bf,Fk,Ba,Am,Bg,pN];constructor
 · rintro⟨a,ha,b,⟨hb,CQ,h⟩,rfl⟩;exact⟨a,b,CQ,hb,h,rfl⟩
 rintro⟨a,b,CQ,hb,h,rfl⟩;exact⟨a,by omega,b,⟨hb,CQ,h⟩,rfl⟩
theorem US {l:List aI.V} (hl:l.Pairwise iI) {S:List (aI.V×Int)} {L:aI.V×Int->List Nat} (hS:wD l S L) {a b:Nat}:Po S L a b=true↔∃q∈S,aI.Next (L q) a b:=by
 simp only[Po,Bu,zf];constructor
 · rintro⟨q,hq,h|h⟩
   · exact⟨q,hq,h⟩
   obtain⟨n',d',L',F',P',hN'⟩:=(hS.po q hq).back (NN hl) ((hS.fl.mem q).1 hq) h;have Wl:=(hS.fl.mem (n',d')).2 F';rw[P'.uniq (hS.po _ Wl)] at hN';exact⟨(n',d'),Wl,hN'⟩
 rintro⟨q,hq,h⟩;exact⟨q,hq,.inl h⟩
theorem PF {tag:Nat} (ht:Nat.blt tag 2=true) {l:List aI.V} (h0:pQ l=0) {M:Nat} (hn:∀v∈l,bT M v) (hM:M<=2^18):∃U:List aI.V,U.length<=2^20/\U≠[]/\(∀v,v∈U↔IsE l v)/\(∀v∈U,bT (M+M) v)/\
 (∀H,Sg 124 [.agg [.aU tag 3 (bS l)]] H (.ret (.aU (H.next+2) 5 ((jH l).map (cU (nG l))))) (H.alloc .tok))/\
 ∀H,Sg 126 [.agg [.aU tag 3 (bS l)]] H (.ret (.aU 0 3 (bS U))) H:=by
 obtain⟨hs,_,cK,HW,hlen,OA,_⟩:=xP h0;have hF:=pB hs;have p3:=mh ht hn hM hlen hF HW
 have hE:∀x∈Ph (jH l) (nG l) l.length l.length,∃a b:Nat,a<b/\(∃q∈jH l,aI.Next (nG l q) a b)/\x=pN (a,b):=fun x hx=>by obtain⟨a,b,h1,h2,h3,rfl⟩:=bx.1 hx;exact⟨a,b,h1,(US hs hF).1 h3,rfl⟩
 have Wj:∀q∈jH l,∀a b,aI.Next (nG l q) a b->a<l.length/\b<l.length:=fun q hq a b h=>by have h1:=(hF.po q hq).pJ.1 h;exact⟨(dK.1 h1.1).1,(dK.1 h1.2.1).1⟩
 have hE2:∀a b:Nat,a<b->(∃q∈jH l,aI.Next (nG l q) a b)->pN (a,b)∈Ph (jH l) (nG l) l.length l.length:=fun a b CQ h=>by obtain⟨q,hq,hN⟩:=h;exact bx.2 ⟨a,b,CQ,(Wj q hq a b hN).2,(US hs hF).2 ⟨q,hq,hN⟩,rfl⟩
 have Uz:(Ph (jH l) (nG l) l.length l.length).length<=2^20:=by have :=di (jH l) (nG l) l.length l.length;have :l.length*l.length<=64*64:=Bq hlen hlen;omega
 have hE0:Ph (jH l) (nG l) l.length l.length≠[]:=by
  have :=Nf hs hF cK;obtain⟨x,r,h⟩:=Ee this;have hx:x∈Mh (jH l) (nG l):=by rw[h];simp
  obtain⟨q,hq,a,b,hN,CQ,rfl⟩:=(IZ hF).1 hx;intro he;have :=hE2 a b CQ ⟨q,hq,hN⟩;rw[he] at this;cases this
 generalize Ph (jH l) (nG l) l.length l.length=E at *
 have Sx:E=(E.map fun x=>(x.1.toNat,x.2.toNat)).map pN:=by rw[En];refine(Hx E).symm.trans (Ej fun x hx=>?_);obtain⟨a,b,_,_,rfl⟩:=hE x hx;simp[pN]
 generalize hE':(E.map fun x=>(x.1.toNat,x.2.toNat))=E' at *
 have Xv:∀p:Nat×Nat,p∈E'↔(∃q∈jH l,aI.Next (nG l q) p.1 p.2)/\p.1<p.2:=fun p=>by
  rw[<-hE',Bf];constructor
  · rintro⟨x,hx,rfl⟩;obtain⟨a,b,h1,h2,rfl⟩:=hE x hx;exact⟨by simpa [pN] using h2,by simpa [pN] using h1⟩
  rintro⟨h1,h2⟩;exact⟨pN p,hE2 p.1 p.2 h2 h1,by simp[pN]⟩
 refine⟨E'.map (DE l),?_,?_,?_,?_,fun H=>Vt tag hn hM hlen hF cK ht H,fun H=>mw ht hn hM (E:=E') ?_ ?_ ?_ ?_ H⟩
 · rw[Ai,<-hE',Ai];exact Uz
 · intro e;rw[Hl,<-hE',Hl] at e;exact hE0 e
 · intro v;rw[Bf];constructor
   · rintro⟨p,hp,rfl⟩;obtain⟨⟨q,hq,h1⟩,h2⟩:=(Xv p).1 hp;have h3:=(hF.po q hq).pJ.1 h1;exact⟨q,(hF.fl.mem q).1 hq,p.1,p.2,h3.2,h3.1,h2,rfl⟩
   rintro⟨q,hq,a,b,h1,h2,h3,rfl⟩;have Wl:=(hF.fl.mem q).2 hq;exact⟨(a,b),(Xv (a,b)).2 ⟨⟨q,Wl,(hF.po q Wl).pJ.2 ⟨h2,h1⟩⟩,h3⟩,rfl⟩
 · intro v hv;obtain⟨p,hp,rfl⟩:=Bf.1 hv;obtain⟨⟨q,hq,h1⟩,h2⟩:=(Xv p).1 hp;obtain⟨b1,b2⟩:=Wj q hq _ _ h1
   have hg:∀k,k<l.length->bT M (l.getD k V0):=fun k hk=>by have :l.getD k V0=l[k]:=(by simp[List.getD,hk]);rw[this];exact hn _ (Ac hk)
   exact fV (hg _ b2) (hg _ b1)
 · rw[<-hE',Ai];exact Uz
 · intro e;rw[<-hE',Hl] at e;exact hE0 e
 · intro p hp;obtain⟨⟨q,hq,h1⟩,h2⟩:=(Xv p).1 hp;exact Wj q hq _ _ h1
 rw[<-Sx];exact p3
theorem Yp {v:aI.V} {B:Nat} (hv:bT B v) (hB:B<2^62) (H:aA):Sg 127 [.agg (c3 fun i=>cI (v.at i))] H (.ret (.agg (cG v))) H:=by
 refine Sp aVo (by simp only[sf,kJ fun i _=>dC _]) (by simp only[sf,cE]) ?_ H;unfold aLc;dsimp only;have hl:=fun i (hi:i<3)=>rT (c:=fun i=>cI (v.at i)) (fun i _=>dH _) hi;have l0:(c3 fun i=>cI (v.at i)).take 18=cI (v.at 0):=hl 0 (by decide);have l1:((c3 fun i=>cI (v.at i)).drop 18).take 18=cI (v.at 1):=hl 1 (by decide);have l2:((c3 fun i=>cI (v.at i)).drop 36).take 18=cI (v.at 2):=hl 2 (by decide);have h54:(c3 fun i=>cI (v.at i)).length=54:=fX fun _ _=>dH _
 have hs:∀i,∀H,Sg 185 [.agg (cI (v.at i))] H (.ret (.jR [.int .i64 (v.at i),.bool true])) H:=fun i=>by have :=bT.c hv i;exact Rn (by omega) (by omega)
 refine bQ ?_;simp only[↓zP,zJ,seval];refine bR ?_;simp only[↓zP,zJ,seval,nC,h54,l0];refine bW (hs 0 _) ?_;simp only[↓zP,zJ,seval,h54,l1];refine bW (hs 1 _) ?_;simp only[↓zP,zJ,seval,h54,l2];refine bW (hs 2 _) ?_;simp only[↓zP,zJ,seval];refine Rx ?_;rfl
theorem aQh {a b Z:List AV} (ha:a.length=18) (hb:b.length=18) (hZ:Z.length=18):
 (if True/\36<=(a++Z).length/\True then some ((a++Z).take 18++b++(a++Z).drop 36) else none)=some (a++b):=by
 have hl:(a++Z).length=36:=by rw[Au,ha,hZ]
 rw[if_pos ⟨trivial,by omega,trivial⟩,Co (by omega),Ar (by omega),Bt (by omega),Cd]
theorem WK {tag:Nat} (ht:Nat.blt tag 2=true) {l:List aI.V} {M B:Nat} (hl:∀v∈l,bT M v) (hlen:l.length<2^30) {n:aI.V} (hn:bT B n) (hM:M<2^31) (hB:B<2^31) (hs:3*(B*M)<2^62) {x0:aI.V} {r:List aI.V} (hx:l=x0::r) (H:aA):
 Sg 181 [.agg [.aU tag 3 (bS l)],.agg (cG n)] H (.ret (.agg (cI (wW n (aI.dot n x0) l)++cI (wN n (aI.dot n x0) l)))) H:=by
 have xe:∀v∈l,∀H,Sg 244 [.agg (cG n),.agg (cG v)] H (.ret (.agg (cI (aI.dot n v)))) H:=fun v hv H=>aHd hn (hl v hv) hB hM hs H;refine Sp aXa (by simp only[sf,cV ht,cE]) (by simp only[AV.free,gS,ZT];rfl) ?_ H;unfold aMk;dsimp only;have Wp:0<l.length:=by rw[hx];simp
 have aRm:l[0]=x0:=by subst hx;rfl
 have g0:=cF Wp;have Xp:=xe _ (Ac Wp);have a0:asNat (.int .i64 0)=some 0:=rfl;have gM:∀z,(cI z).length=18:=fun z=>by simp[cI,dA,cM]
 have d3:∀v:aI.V,(cG v).take 3=cG v:=fun _=>rfl;refine bQ ?_;simp only[↓zP,zJ,seval];refine bR ?_;generalize hX:(((aA.mk 0 .nil).alloc _).alloc _).alloc _=HA;have m0:HA.get 0=some (.cells [.aU tag 3 (bS l)] false):=by subst hX;simp only[zI,seval]
 have m1:HA.get 1=some (.cells (cG n) false):=by subst hX;simp only[zI,seval]
 obtain⟨z,m2,lz⟩:∃z,HA.get 2=some (.cells z false)/\z.length=36:=⟨_,by subst hX;simp only[zI,seval];rfl,by simp[dA];rfl⟩;have mn:HA.next=3:=by subst hX;simp only[zI,seval]
 have mf:cW HA:=by subst hX;exact(((cW.nil 0).alloc _).alloc _).alloc _
 clear hX;refine bQ ?_;refine lN 1 (by decide) mf.at1 fun H1 n1 e1=>?_;simp only[↓zP,zJ,seval,zD,m0,m1,mn,e1,a0,aN,Wp,g0,oL (aM l[0]),oL (aM n)];have xI:(AV.bool false::AV.bool false::wC zs).length=18:=by simp[dA];rfl
 refine eE (Xp _) ?_;rw[aRm];generalize hd:aI.dot n x0=d0 at *;rw[mn] at n1;simp only[↓zP,zJ,seval,zD,gM,xI,oL xI,n1,e1];refine bR ?_;have f3:cW H1:=fun j hj=>by rw[e1 j];exact mf j (by omega)
 generalize hX:(H1.set 3 _).set 3 _=HB;have b0:HB.get 0=some (.cells [.aU tag 3 (bS l)] false):=by subst hX;rw[aA.aC,if_neg (by decide),aA.aC,if_neg (by decide),e1];exact m0
 have b1:HB.get 1=some (.cells (cG n) false):=by subst hX;rw[aA.aC,if_neg (by decide),aA.aC,if_neg (by decide),e1];exact m1
 have b2:HB.get 2=some (.cells z false):=by subst hX;rw[aA.aC,if_neg (by decide),aA.aC,if_neg (by decide),e1];exact m2
 have b3:HB.get 3=some (.cells (cI d0) false):=by subst hX;rw[aA.aC,if_pos rfl]
 have bn:HB.next=4:=by subst hX;simp only[aA.aW];omega
 have bf:cW HB:=by subst hX;exact(f3.set (by omega) _).set (by simp only[aA.aW];omega) _
 clear hX;have hT:∀a b:Int,(cI a++cI b).take 18=cI a:=fun a b=>by rw[Co (by rw[gM];exact Ak _),<-gM a,Ao]
 have hD:∀a b:Int,(cI a++cI b).drop 18=cI b:=fun a b=>by rw[<-gM a,List.drop_left]
 have Xo:∀a b:Int,(cI a++cI b).length=36:=fun a b=>by rw[Au,gM,gM]
 refine bQ ?_;simp only[↓zP,zJ,seval,b3,oL (gM d0)];rw[aQh (gM d0) (gM d0) xI];have z36:(AV.bool false::AV.bool false::AV.int .u32 0::AV.int .u32 0::AV.int .u32 0::AV.int .u32 0::AV.int .u32 0::AV.int .u32 0::AV.int .u32 0::AV.int .u32 0::AV.int .u32 0::AV.int .u32 0::AV.int .u32 0::AV.int .u32 0::AV.int .u32 0::AV.int .u32 0::AV.int .u32 0::AV.int .u32 0::AV.bool false::AV.bool false::wC zs).length=36:=by simp[dA];rfl
 generalize (AV.bool false::AV.bool false::AV.int .u32 0::AV.int .u32 0::AV.int .u32 0::AV.int .u32 0::AV.int .u32 0::AV.int .u32 0::AV.int .u32 0::AV.int .u32 0::AV.int .u32 0::AV.int .u32 0::AV.int .u32 0::AV.int .u32 0::AV.int .u32 0::AV.int .u32 0::AV.int .u32 0::AV.int .u32 0::AV.bool false::AV.bool false::wC zs)=Z36 at *;simp only[zJ,seval,Xo,oL z36,bn];refine bR ?_;generalize hX:((HB.alloc _).set 4 _)=HC;have p0:HC.get 0=some (.cells [.aU tag 3 (bS l)] false):=by subst hX;rw[aA.aC,if_neg (by decide),aA.aJ,bn,if_neg (by decide)];exact b0
 have p1:HC.get 1=some (.cells (cG n) false):=by subst hX;rw[aA.aC,if_neg (by decide),aA.aJ,bn,if_neg (by decide)];exact b1
 have p2:HC.get 2=some (.cells z false):=by subst hX;rw[aA.aC,if_neg (by decide),aA.aJ,bn,if_neg (by decide)];exact b2
 have p4:HC.get 4=some (.cells (cI d0++cI d0) false):=by subst hX;rw[aA.aC,if_pos rfl]
 have pn:HC.next=5:=by subst hX;simp only[aA.aW,aA.aZ];omega
 have pf:cW HC:=by subst hX;exact(bf.alloc _).set (by simp only[aA.aZ];omega) _
 clear hX;have lf1:wW n d0 (l.take 1)=d0:=by subst hx;simp[wW,hd]
 have hf1:wN n d0 (l.take 1)=d0:=by subst hx;simp[wN,hd]
 have aUb:d0.natAbs<=3*(B*M):=by
  have :=oY hn (hl x0 (by rw[hx];simp))
  rwa [hd] at this
 have w16:3*(B*M)<W^16:=by
  have :2^62<W^16:=by decide
  omega
 refine aG fun K hK=>?_;refine bQ ?_;simp only[↓zP,zG,seval];refine bR ?_;refine bN [] (fun i _ H'=>H'.get 0=some (.cells [.aU tag 3 (bS l)] false)/\H'.get 1=some (.cells (cG n) false)/\H'.get 2=some (.cells z false)/\H'.get 4=some (.cells (cI (wW n d0 (l.take i))++cI (wN n d0 (l.take i))) false)/\5<=H'.next/\cW H'/\(wW n d0 (l.take i)).natAbs<=3*(B*M)/\(wN n d0 (l.take i)).natAbs<=3*(B*M)) 1 l.length (by omega) (by omega) (by decide) ?_ ?_ ?_ ?_ ?_
 · simp only[zB,seval]
 · rw[lf1,hf1];exact⟨p0,p1,p2,p4,by omega,pf,aUb,aUb⟩
 · rintro i f H2 h0 hi hk e2 ⟨q0,_⟩;have f2:f 2=.ref 0 0:=hk 2 rfl;simp only[↓zP,zJ,seval,e2,f2,q0,aN];exact tB (by omega)
 · rintro i f H2 h0 hi hk e2 ⟨q0,q1,q2,q4,qn,qf,c1,c2⟩;have f2:f 2=.ref 0 0:=hk 2 rfl;have f3':f 3=.ref 1 0:=hk 3 rfl;have f6:f 6=.ref 4 0:=hk 6 rfl;have hg:=cF hi;have vO:=Ac hi;have hdi:=xe _ vO;have j8:=oY hn (hl _ vO)
   have RM:wW n d0 (l.take (i+1))=if aI.dot n l[i]<wW n d0 (l.take i) then aI.dot n l[i] else wW n d0 (l.take i):=by unfold wW;rw[Al,Gz];simp[hi]
   have kb:wN n d0 (l.take (i+1))=if aI.dot n l[i]>wN n d0 (l.take i) then aI.dot n l[i] else wN n d0 (l.take i):=by unfold wN;rw[Al,Gz];simp[hi]
   rw[RM,kb];generalize wW n d0 (l.take i)=lo at *;generalize wN n d0 (l.take i)=gR at *;generalize l[i]=x at *;generalize aI.dot n x=d at *;refine aF ?_;refine bQ ?_;refine lN 1 (by decide) qf.at1 fun H3 n3 e3=>?_;simp only[↓zP,zJ,seval,zD,f2,f3',e2,q0,q1,e3,aB,aN,hi,hg,oL (aM x),oL (aM n)];refine eE (hdi _) ?_;simp only[↓zP,zJ,seval,zD,gM,xI,oL xI,n3,e3];refine bR ?_;have f3:cW H3:=fun j hj=>by rw[e3 j];exact qf j (by omega)
   generalize hX:(H3.set H2.next _).set H2.next _=H4;have y0:H4.get 0=some (.cells [.aU tag 3 (bS l)] false):=(by subst hX;rw[aA.aC,if_neg (by omega),aA.aC,if_neg (by omega),e3];exact q0);have y1:H4.get 1=some (.cells (cG n) false):=(by subst hX;rw[aA.aC,if_neg (by omega),aA.aC,if_neg (by omega),e3];exact q1);have y2:H4.get 2=some (.cells z false):=(by subst hX;rw[aA.aC,if_neg (by omega),aA.aC,if_neg (by omega),e3];exact q2);have y4:H4.get 4=some (.cells (cI lo++cI gR) false):=(by subst hX;rw[aA.aC,if_neg (by omega),aA.aC,if_neg (by omega),e3];exact q4);have y8:H4.get H2.next=some (.cells (cI d) false):=(by subst hX;rw[aA.aC,if_pos rfl]);have yn:5<=H4.next:=(by subst hX;simp only[aA.aW];omega);have yf:cW H4:=(by subst hX;exact(f3.set (by omega) _).set (by simp only[aA.aW];omega) _);clear hX e3 f3;have q8:H2.next<H4.next:=Cu fun h=>by have :=yf H2.next (by omega);rw[y8] at this;cases this
   clear n3;generalize H2.next=r8 at *
   have uP:∀y:Int,(decide (kS (some d) (some y)<0)=decide (d<y))/\(decide (kS (some d) (some y)>0)=decide (d>y)):=fun y=>by constructor<;>(rw[Bb];simp only[kS];split<;>(try split)<;>omega)
   refine aG fun K3 FZ=>?_
   have key:∀(f':dD) (H':aA) (lo2:Int),f' 8=.ref r8 0->f' 6=.ref 4 0->H'.get r8=some (.cells (cI d) false)->H'.get 0=some (.cells [.aU tag 3 (bS l)] false)->H'.get 1=some (.cells (cG n) false)->H'.get 2=some (.cells z false)->H'.get 4=some (.cells (cI lo2++cI gR) false)->5<=H'.next->cW H'->lo2=(if d<lo then d else lo)->K3 f' [] H':=by
    intro f' H' lo2 v8 v6 u8 u0 u1 u2 u4 un uf plo;apply FZ;clear FZ K3;have fH:(if d<lo then d else lo).natAbs<=3*(B*M):=(by split<;>omega);have hcm:=CH (x:=d) (y:=gR) (by omega) (by omega);have qj:4<H'.next:=(by omega);refine aG fun K4 hK4=>?_;simp only[↓zP,zJ,seval,v8,v6,u8,u4,Xo,hD,oL (gM d),oL (gM gR)];refine bW (hcm _) ?_;by_cases c:d>gR
    · have d2:decide (kS (some d) (some gR)>0)=true:=(by rw[(uP gR).2];exact Af c);simp only[↓zP,zG,seval,d2];apply hK4;clear hK4 K4;simp only[↓zP,zJ,seval,v8,v6,u8,u4,Xo,hT,oL (gM d),oL (Xo lo2 gR)];rw[if_pos c,<-plo];exact⟨u0,u1,u2,rfl,un,uf.set qj _,by rw[plo];exact fH,j8⟩
    have d2:decide (kS (some d) (some gR)>0)=false:=(by rw[(uP gR).2];exact Ae c);simp only[↓zP,zG,seval,d2];apply hK4;clear hK4 K4;simp only[↓zP,zG,seval];rw[if_neg c,<-plo];exact⟨u0,u1,u2,u4,un,uf,by rw[plo];exact fH,c2⟩
   have hcm:=CH (x:=d) (y:=lo) (by omega) (by omega);have qj:4<H4.next:=(by omega);clear FZ;refine aG fun K4 hK4=>?_;simp only[↓zP,zJ,seval,f6,y8,y4,Xo,hT,oL (gM d)];refine bW (hcm _) ?_;by_cases c:d<lo
   · have d2:decide (kS (some d) (some lo)<0)=true:=(by rw[(uP lo).1];exact Af c);simp only[↓zP,zG,seval,d2];apply hK4;clear hK4 K4;simp only[↓zP,zJ,seval,f6,y8,y4,Xo,hD,oL (gM d)];refine key _ _ d (by simp only[zB,seval]) (by simp only[zB,seval];exact f6) ?_ ?_ ?_ ?_ ?_ ?_ (yf.set qj _) (if_pos c).symm
     · rw[aA.aC,if_neg (by omega)];exact y8
     · rw[aA.aC,if_neg (by omega)];exact y0
     · rw[aA.aC,if_neg (by omega)];exact y1
     · rw[aA.aC,if_neg (by omega)];exact y2
     · rw[aA.aC,if_pos rfl]
     simp only[aA.aW];exact yn
   have d2:decide (kS (some d) (some lo)<0)=false:=(by rw[(uP lo).1];exact Ae c);simp only[↓zP,zG,seval,d2];apply hK4;clear hK4 K4;simp only[↓zP,zG,seval];exact key _ H4 lo (by simp only[zB,seval]) (by simp only[zB,seval];exact f6) y8 y0 y1 y2 y4 yn yf (if_neg c).symm
 rintro f H2 hk ⟨q0,q1,q2,q4,qn,qf,c1,c2⟩;have f4:f 4=.ref 2 0:=hk 4 rfl;have f6:f 6=.ref 4 0:=hk 6 rfl;rw[Ao] at q4;simp only[↓zP,seval];apply hK;clear hK K;simp only[↓zP,zJ,seval,f4,f6,q4,Xo,q2,lz,oL lz,oL (Xo (wW n d0 l) (wN n d0 l))];refine⟨rfl,_,by simp only[↓zP,zR,seval,f4,Xo,oL (Xo (wW n d0 l) (wN n d0 l))];rfl,?_⟩;rfl
theorem aHi {ta tb:Nat} (qu:Nat.blt ta 2=true) (qw:Nat.blt tb 2=true) {a b:List aI.V} {M B:Nat} (ha:∀v∈a,bT M v) (hb:∀v∈b,bT M v) (hal:a.length<2^30) (VE:b.length<2^30) (ha0:a≠[]) (VD:b≠[]) {n:aI.V} (hn:bT B n) (hM:M<2^31) (hB:B<2^31) (hs:3*(B*M)<2^62) (H:aA):
 Sg 125 [.agg [.aU ta 3 (bS a)],.agg [.aU tb 3 (bS b)],.agg (cG n)] H (.ret (.bool (decide (n≠V0)&&oT a b n))) H:=by
 obtain⟨xa,ra,Wq⟩:=Ee ha0;obtain⟨xb,rb,hxb⟩:=Ee VD;have hsa:=fun H=>WK qu ha hal hn hM hB hs Wq H;have hsb:=fun H=>WK qw hb VE hn hM hB hs hxb H
 have YB:oT a b n=(decide (wN n (aI.dot n xa) a<=wW n (aI.dot n xb) b)||decide (wN n (aI.dot n xb) b<=wW n (aI.dot n xa) a)):=by unfold oT;rw[Wq,hxb];rfl
 refine So aVm (by simp only[sf,cV qu,cV qw,cE]) ?_ H;unfold aLa;dsimp only;have hz:[AV.int .i64 0,AV.int .i64 0,AV.int .i64 0]=cG V0:=rfl;have gM:∀z,(cI z).length=18:=fun z=>by simp[cI,dA,cM]
 have hT:∀a b:Int,(cI a++cI b).take 18=cI a:=fun a b=>by rw[Co (by rw[gM];exact Ak _),<-gM a,Ao]
 have hD:∀a b:Int,(cI a++cI b).drop 18=cI b:=fun a b=>by rw[<-gM a,List.drop_left]
 have Xo:∀a b:Int,(cI a++cI b).length=36:=fun a b=>by rw[Au,gM,gM]
 have z36:(AV.bool false::AV.bool false::AV.int .u32 0::AV.int .u32 0::AV.int .u32 0::AV.int .u32 0::AV.int .u32 0::AV.int .u32 0::AV.int .u32 0::AV.int .u32 0::AV.int .u32 0::AV.int .u32 0::AV.int .u32 0::AV.int .u32 0::AV.int .u32 0::AV.int .u32 0::AV.int .u32 0::AV.int .u32 0::AV.bool false::AV.bool false::wC zs).length=36:=by simp[dA];rfl
 refine bQ ?_;simp only[↓zP,zJ,seval];refine bR ?_;generalize hX:(((aA.mk 0 .nil).alloc _).alloc _).alloc _=HA;have m0:HA.get 0=some (.cells [.aU ta 3 (bS a)] false):=by subst hX;simp only[zI,seval]
 have m1:HA.get 1=some (.cells [.aU tb 3 (bS b)] false):=by subst hX;simp only[zI,seval]
 have m2:HA.get 2=some (.cells (cG n) false):=by subst hX;simp only[zI,seval]
 have mn:HA.next=3:=by subst hX;simp only[zI,seval]
 clear hX;refine bQ ?_;by_cases Xx:n=V0
 · simp only[↓zP,zJ,seval,m2,oL (aM n),hz,nF,Af Xx];refine Rx ?_;rw[Ae (fun h=>h Xx)];rfl
 simp only[↓zP,zJ,seval,m2,oL (aM n),hz,nF,Ae Xx];refine bR ?_;rw[Af Xx,Cr,YB];refine bQ ?_;simp only[↓zP,zJ,seval,m0,m2,oL (aM n)];refine bW (hsa _) ?_;simp only[↓zP,zJ,seval,mn,Xo];refine bR ?_
 have hBM:∀v,v∈a\/v∈b->(aI.dot n v).natAbs<=3*(B*M):=fun v hv=>by
  rcases hv with h|h
  · exact oY hn (ha v h)
  exact oY hn (hb v h)
 have da:=hBM xa (.inl (by rw[Wq];simp));have db:=hBM xb (.inr (by rw[hxb];simp));have lan:=IW (n:=n) (l:=a) da fun v hv=>hBM v (.inl hv);have han:=ID (n:=n) (l:=a) da fun v hv=>hBM v (.inl hv);have lbn:=IW (n:=n) (l:=b) db fun v hv=>hBM v (.inr hv);have hbn:=ID (n:=n) (l:=b) db fun v hv=>hBM v (.inr hv);generalize wW n (aI.dot n xa) a=la at *;generalize wN n (aI.dot n xa) a=ua at *;generalize wW n (aI.dot n xb) b=lb at *;generalize wN n (aI.dot n xb) b=ub at *;generalize hX:(HA.alloc _).set 3 _=HB;have b1:HB.get 1=some (.cells [.aU tb 3 (bS b)] false):=by subst hX;rw[aA.aC,if_neg (by decide),aA.aJ,mn,if_neg (by decide)];exact m1
 have b2:HB.get 2=some (.cells (cG n) false):=by subst hX;rw[aA.aC,if_neg (by decide),aA.aJ,mn,if_neg (by decide)];exact m2
 have b3:HB.get 3=some (.cells (cI la++cI ua) false):=by subst hX;rw[aA.aC,if_pos rfl]
 have bn:HB.next=4:=by subst hX;simp only[aA.aW,aA.aZ];omega
 clear hX;refine bQ ?_;simp only[↓zP,zJ,seval,b1,b2,oL (aM n)];refine bW (hsb _) ?_;simp only[↓zP,zJ,seval,bn,Xo];refine bR ?_;generalize hX:(HB.alloc _).set 4 _=HC;have p3:HC.get 3=some (.cells (cI la++cI ua) false):=by subst hX;rw[aA.aC,if_neg (by decide),aA.aJ,bn,if_neg (by decide)];exact b3
 have p4:HC.get 4=some (.cells (cI lb++cI ub) false):=by subst hX;rw[aA.aC,if_pos rfl]
 clear hX
 have w16:3*(B*M)<W^16:=by
  have :2^62<W^16:=by decide
  omega
 have Sv:=CH (x:=ua) (y:=lb) (by omega) (by omega);have uP:=CH (x:=ub) (y:=la) (by omega) (by omega)
 have hle:∀x y:Int,decide (kS (some x) (some y)<=0)=decide (x<=y):=fun x y=>by rw[Bb];simp only[kS];split<;>(try split)<;>omega
 refine aG fun K hK=>?_;simp only[↓zP,zJ,seval,p3,p4,Xo,hT,hD,oL (gM _)];refine bW (Sv _) ?_;by_cases c:ua<=lb
 · have d1:decide (kS (some ua) (some lb)<=0)=true:=by rw[hle];exact Af c
   simp only[↓zP,zG,seval,d1];apply hK;clear hK K;simp only[↓zP,seval];refine Rx ?_;rw[Af c];rfl
 have d1:decide (kS (some ua) (some lb)<=0)=false:=by rw[hle];exact Ae c
 simp only[↓zP,zJ,seval,d1,p3,p4,Xo,hT,hD,oL (gM _)];refine bW (uP _) ?_;simp only[↓zP,zG,seval,hle];apply hK;clear hK K;simp only[↓zP,seval];refine Rx ?_;rw[Ae c];rfl
theorem Ta {ta tb:Nat} (qu:Nat.blt ta 2=true) (qw:Nat.blt tb 2=true) {a b:List aI.V} (ha:pQ a=0) (hb:pQ b=0) (na:∀v∈a,bT (2^12) v) (nb:∀v∈b,bT (2^12) v) (H:aA):
 Sg 89 [.agg [.aU ta 3 (bS a)],.agg [.aU tb 3 (bS b)]] H (.ret (.bool (nX a b))) H:=by
 obtain⟨U,lU,zU,mU,nU,fa,ea⟩:=PF qu ha na (by decide);obtain⟨W',lW,zW,mW,nW,fb,eb⟩:=PF qw hb nb (by decide);obtain⟨sa,_,ha1,ha2,ha3,ha4,_⟩:=xP ha;obtain⟨sb,_,dR,fH,tS,uK,_⟩:=xP hb;have hFa:=pB sa;have hFb:=pB sb
 have YB:∀n,bT (2^27) n->∀H,Sg 125 [.agg [.aU ta 3 (bS a)],.agg [.aU tb 3 (bS b)],.agg (cG n)] H (.ret (.bool (decide (n≠V0)&&oT a b n))) H:=fun n hn H=>aHi qu qw na nb (by omega) (by omega) ha4 uK hn (by decide) (by decide) (by decide) H
 have tV:∀(T:List (List AV)),T=(jH a).map (cU (nG a))++(jH b).map (cU (nG b))->T.length<=128/\(∀i,i<T.length->∃n,(T.getD i []).take 3=cG n/\(T.getD i []).length=5/\n≠V0/\IsD a b n/\bT (2^27) n)/\∀n d,(pP (fun i=>a.getD i V0) a.length n d\/pP (fun i=>b.getD i V0) b.length n d)->∃i,i<T.length/\(T.getD i []).take 3=cG n:=by
  intro T hT
  have hm:∀x,x∈T->∃n,x.take 3=cG n/\x.length=5/\n≠V0/\IsD a b n/\bT (2^27) n:=fun x hx=>by
   rw[hT,An] at hx
   rcases hx with hx|hx
   · obtain⟨q,hq,rfl⟩:=Bf.1 hx;have hF:=(hFa.fl.mem q).1 hq;exact⟨q.1,rfl,rfl,hF.Zj.hn,.inl ⟨q.2,hF⟩,qF na hF⟩
   obtain⟨q,hq,rfl⟩:=Bf.1 hx;have hF:=(hFb.fl.mem q).1 hq;exact⟨q.1,rfl,rfl,hF.Zj.hn,.inr (.inl ⟨q.2,hF⟩),qF nb hF⟩
  have hgm:∀x,x∈T->∃i,i<T.length/\T.getD i []=x:=fun x hx=>by obtain⟨i,hi,h⟩:=Dm hx;exact⟨i,hi,by simp[List.getD,hi,h]⟩
  refine⟨by rw[hT];simp;omega,fun i hi=>?_,fun n d h=>?_⟩
  · have :T.getD i []=T[i]:=by simp[List.getD,hi]
    rw[this];exact hm _ (Ac hi)
  rcases h with h|h
  · obtain⟨i,hi,e⟩:=hgm (cU (nG a) (n,d)) (by rw[hT,An];exact .inl (Bf.2 ⟨_,(hFa.fl.mem (n,d)).2 h,rfl⟩));exact⟨i,hi,by rw[e];rfl⟩
  obtain⟨i,hi,e⟩:=hgm (cU (nG b) (n,d)) (by rw[hT,An];exact .inr (Bf.2 ⟨_,(hFb.fl.mem (n,d)).2 h,rfl⟩));exact⟨i,hi,by rw[e];rfl⟩
 refine So bGr (by simp only[sf,cV qu,cV qw]) ?_ H;unfold W89;dsimp only;have Sr:((jH b).map (cU (nG b))).isEmpty=false:=by simpa using dR
 obtain⟨hTl,hTi,hTn⟩:=tV _ rfl;refine bQ ?_;simp only[↓zP,zJ,seval];refine bR ?_;generalize hX:((aA.mk 0 .nil).alloc _).alloc _=HA;have m0:HA.get 0=some (.cells [.aU ta 3 (bS a)] false):=by subst hX;simp only[zI,seval]
 have m1:HA.get 1=some (.cells [.aU tb 3 (bS b)] false):=by subst hX;simp only[zI,seval]
 have mn:HA.next=2:=by subst hX;simp only[zI,seval]
 have mf:cW HA:=by subst hX;exact((cW.nil 0).alloc _).alloc _
 clear hX;refine bQ ?_;simp only[↓zP,zJ,seval,m0];refine bW (fa _) ?_;simp only[↓zP,zG,seval];refine bR ?_;have oA:Own ((HA.alloc .tok).alloc .tok) 5 (.aU (HA.next+2) 5 ((jH a).map (cU (nG a)))) ((jH a).map (cU (nG a))):=.inr ⟨HA.next,rfl,by simp only[aA.aZ];omega,by rw[aA.aJ,if_neg (by simp only[aA.aZ];omega),aA.aJ,if_pos rfl]⟩;obtain⟨HB,z1,z2,z3,z4,z5⟩:=Has.push (.inr oA) (ys:=(jH b).map (cU (nG b))) (bytes:=56) Sr (by rw[Au] at hTl;omega);have m0':((HA.alloc .tok).alloc .tok).get 0=some (.cells [.aU ta 3 (bS a)] false):=by rw[aA.aJ,if_neg (by simp only[aA.aZ];omega),aA.aJ,if_neg (by omega)];exact m0
 have m1':(HA.alloc .tok).get 1=some (.cells [.aU tb 3 (bS b)] false):=by rw[aA.aJ,if_neg (by omega)];exact m1
 have bBi:((HA.alloc .tok).alloc .tok).get 1=some (.cells [.aU tb 3 (bS b)] false):=by rw[aA.aJ,if_neg (by simp only[aA.aZ];omega)];exact m1'
 have b0:=(z4 0 (by simp only[aA.aZ];omega) (by rw[m0'];simp)).trans m0';have b1:=(z4 1 (by simp only[aA.aZ];omega) (by rw[bBi];simp)).trans bBi;have bf:=z5 ((mf.alloc _).alloc _);have bn:2<=HB.next:=by rw[z2];simp only[aA.aZ];omega
 generalize hHA:HA.alloc .tok=HA1 at *;refine bQ ?_;simp only[↓zP,zJ,seval,m1'];refine bW (fb _) ?_;simp only[↓zP,zG,seval];rw[show ∀(h:aA) (x:List (List AV)) (t:Nat),cQ h 5 (.aU t 5 x)=some x from fun _ _ _=>rfl];simp only[z1,bZ,seval,zI];refine bR ?_;generalize (jH a).map (cU (nG a))++(jH b).map (cU (nG b))=T at *;generalize HA1.next+1+2=tg at *;clear z1 z2 z3 z4 z5 fa fb Sr oA;refine aG fun K hK=>?_;refine bQ ?_;simp only[↓zP,zG,seval];refine bR ?_;refine bN [] (fun i _ H'=>H'=HB/\∀j,j<i->∀n,(T.getD j []).take 3=cG n->oT a b n=false) 0 T.length (Az _) (by omega) (by decide) ?_ ?_ ?_ ?_ ?_
 · simp only[zB,seval]
 · exact⟨rfl,fun j hj=>absurd hj (As _)⟩
 · rintro i f H1 h0 hi hk e1 _;have f5:f 5=.aU tg 5 T:=hk 5 rfl;simp only[↓zP,zG,seval,e1,f5];exact tB (by omega)
 · rintro i f H1 h0 hi hk e1 ⟨rfl,eM⟩;have f2:f 2=.ref 0 0:=hk 2 rfl;have f3:f 3=.ref 1 0:=hk 3 rfl;have f5:f 5=.aU tg 5 T:=hk 5 rfl;obtain⟨n,t3,t5,Xx,hD,hnn⟩:=hTi i hi;have hse:=YB n hnn;rw[Af Xx,Cr] at hse;have t3':3<=(T.getD i []).length:=by omega
   refine aF ?_;refine bQ ?_;refine Dz ?_;simp only[↓zP,zJ,seval,zD,f2,f3,f5,e1,b0,b1,aB,hi,t3,t5];refine eE (hse _) ?_;simp only[↓zP,zJ,seval,zD];refine bR ?_;by_cases hs:oT a b n=true
   · simp only[↓zP,zG,seval,hs];refine Rx ?_;rw[show nX a b=true from qZ.2 ⟨n,hD,hs⟩];rfl
   have FE:oT a b n=false:=(by simpa using hs);simp only[↓zP,zG,seval,FE];refine⟨trivial,fun j hj n' JZ=>?_⟩;by_cases hji:j=i
   · subst hji
     have :n'=n:=by rw[t3] at JZ;obtain⟨x,y,z⟩:=n;obtain⟨x',y',z'⟩:=n';simp only[cG,Iw,AV.int.injEq,Jz,and_true] at JZ;obtain⟨h1,h2,h3⟩:=JZ;subst h1;subst h2;subst h3;rfl
     rw[this];exact FE
   exact eM j (by omega) n' JZ
 rintro f H1 hk ⟨rfl,eM⟩;have f2:f 2=.ref 0 0:=hk 2 rfl;have f3:f 3=.ref 1 0:=hk 3 rfl;simp only[↓zP,seval];apply hK;clear hK K;refine bQ ?_;simp only[↓zP,zJ,seval,f2,b0];refine bW (ea _) ?_;simp only[↓zP,zG,seval];refine fM ?_;simp only[↓zP,zJ,seval,f3,b1];refine bW (eb _) ?_;simp only[↓zP,zG,seval];refine bR ?_;refine aG fun K hK=>?_;refine bQ ?_;simp only[↓zP,zG,seval];refine bR ?_;have II:∀i (h:i<U.length),(bS U).getD i []=cG U[i]:=fun i h=>cF h;have hwl:∀i (h:i<W'.length),(bS W').getD i []=cG W'[i]:=fun i h=>cF h;have hUl:(bS U).length=U.length:=aN _;have hWl:(bS W').length=W'.length:=aN _;refine bN [] (fun i _ H'=>H'.get 0=some (.cells [.aU ta 3 (bS a)] false)/\H'.get 1=some (.cells [.aU tb 3 (bS b)] false)/\2<=H'.next/\cW H'/\∀u∈U.take i,∀w∈W',(decide (aI.aT u w≠V0)&&oT a b (aI.aT u w))=false) 0 U.length (Az _) (by omega) (by decide) ?_ ?_ ?_ ?_ ?_
 · simp only[zB,seval]
 · exact⟨b0,b1,bn,bf,fun u hu=>by simp at hu⟩
 · rintro i g H2 h0 hi dP e2 _;have g8:g 8=.aU 0 3 (bS U):=dP 8 rfl;simp only[↓zP,zG,seval,e2,g8,hUl];exact tB (by omega)
 · rintro i g H2 h0 hi dP e2 ⟨c0,c1,cn,cf,hnu⟩;have g2:g 2=.ref 0 0:=by rw[dP 2 rfl];simp only[zB,seval];exact f2
   have g3:g 3=.ref 1 0:=(by rw[dP 3 rfl];simp only[zB,seval];exact f3);have g8:g 8=.aU 0 3 (bS U):=dP 8 rfl;have g9:g 9=.aU 0 3 (bS W'):=dP 9 rfl;have hgu:=II i hi;have hum:=(mU _).1 (Ac hi);have nu:=nU _ (Ac hi)
   have nM:∀y,y∈U.take (i+1)->y∈U.take i\/y=U[i]:=fun y hy=>by
    rw[Al,An] at hy
    rcases hy with h|h
    · exact .inl h
    simp[hi] at h;exact .inr h
   generalize U[i]=u at *;refine aF ?_;refine bQ ?_;simp only[↓zP,zG,seval];refine bR ?_;refine bN [] (fun j _ H'=>H'.get 0=some (.cells [.aU ta 3 (bS a)] false)/\H'.get 1=some (.cells [.aU tb 3 (bS b)] false)/\2<=H'.next/\cW H'/\∀w∈W'.take j,(decide (aI.aT u w≠V0)&&oT a b (aI.aT u w))=false) 0 W'.length (Az _) (by omega) (by decide) ?_ ?_ ?_ ?_ ?_
   · simp only[zB,seval]
   · exact⟨c0,c1,cn,cf,fun w hw=>by simp at hw⟩
   · rintro j g' H3 h0 hj mB e3 _;have g9':g' 9=.aU 0 3 (bS W'):=(by rw[mB 9 rfl];simp only[zB,seval];exact g9);simp only[↓zP,zG,seval,e3,g9',hWl];exact tB (by omega)
   · rintro j g' H3 h0 hj mB e3 ⟨d0,d1,dn,df,hnw⟩;have jo:g' 2=.ref 0 0:=(by rw[mB 2 rfl];simp only[zB,seval];exact g2);have g3':g' 3=.ref 1 0:=(by rw[mB 3 rfl];simp only[zB,seval];exact g3);have g8':g' 8=.aU 0 3 (bS U):=(by rw[mB 8 rfl];simp only[zB,seval];exact g8);have g9':g' 9=.aU 0 3 (bS W'):=(by rw[mB 9 rfl];simp only[zB,seval];exact g9);have g10:g' 10=.int .i64 i:=(by rw[mB 10 rfl];simp only[zB,seval];exact e2);have hgw:=hwl j hj;have hwm:=(mW _).1 (Ac hj);have nw:=nW _ (Ac hj)
     have bEl:∀y,y∈W'.take (j+1)->y∈W'.take j\/y=W'[j]:=fun y hy=>by
      rw[Al,An] at hy
      rcases hy with h|h
      · exact .inl h
      simp[hj] at h;exact .inr h
     generalize W'[j]=w at *;have ncr:=kK nu nw;have hcr:=me nu nw (by decide) (by decide);have hnr:=Yp ncr (by decide);have hse:=YB (aI.aT u w) ncr
     have tU:(decide (aI.aT u w≠V0)&&oT a b (aI.aT u w))=true->nX a b=true:=fun h=>by rw[Am,Bg] at h;exact qZ.2 ⟨_,.inr (.inr ⟨u,w,hum,hwm,rfl,h.1⟩),h.2⟩
     generalize hsv:(decide (aI.aT u w≠V0)&&oT a b (aI.aT u w))=sv at *;have d3:∀v:aI.V,(cG v).take 3=cG v:=fun _=>rfl;refine aF ?_;refine bQ ?_;refine lN 1 (by decide) df.at1 fun H4 n4 e4=>?_;simp only[↓zP,zJ,seval,zD,g8',g9',g10,e3,aB,hUl,hWl,hi,hj,hgu,hgw,oL (aM u),oL (aM w)];refine eE (hcr _) ?_;simp only[seval];refine eE (hnr _) ?_;generalize hcv:aI.aT u w=cv at *;simp only[↓zP,zJ,seval,zD,n4,e4,oL (aM cv)];refine bR ?_;have q0:¬(0=H3.next):=(by omega);have q1:¬(1=H3.next):=(by omega);generalize hX:(H4.set H3.next _).set H3.next _=H5;have y0:H5.get 0=some (.cells [.aU ta 3 (bS a)] false):=(by subst hX;rw[aA.aC,if_neg q0,aA.aC,if_neg q0,e4];exact d0);have y1:H5.get 1=some (.cells [.aU tb 3 (bS b)] false):=(by subst hX;rw[aA.aC,if_neg q1,aA.aC,if_neg q1,e4];exact d1);have y2:H5.get H3.next=some (.cells (cG cv) false):=(by subst hX;rw[aA.aC,if_pos rfl]);have yn:2<=H5.next:=by subst hX;simp only[aA.aW];omega
     have yf:cW H5:=fun j hj=>by subst hX;simp only[aA.aW] at hj;rw[aA.aC,if_neg (by omega),aA.aC,if_neg (by omega),e4];exact df j (by omega)
     clear hX;generalize H3.next=r5 at *;refine bQ ?_;simp only[↓zP,zJ,seval,jo,g3',y0,y1,y2,oL (aM cv)];refine bW (hse _) ?_;simp only[↓zP,zG,seval];refine bR ?_
     cases sv with
     |true=>simp only[↓zP,zG,seval];refine Rx ?_;rw[tU rfl];rfl
     |false=>
      simp only[↓zP,zG,seval];refine⟨y0,y1,yn,yf,fun y hy=>?_⟩
      rcases bEl y hy with h|rfl
      · exact hnw y h
      rw[hcv];exact hsv
   rintro g' H3 mB ⟨d0,d1,dn,df,hnw⟩;rw[Ao] at hnw;simp only[↓zP,seval];refine⟨d0,d1,dn,df,fun y hy=>?_⟩
   rcases nM y hy with h|rfl
   · exact hnu y h
   exact hnw
 rintro g H2 dP ⟨c0,c1,cn,cf,hnu⟩;rw[Ao] at hnu;simp only[↓zP,seval];apply hK;clear hK K;simp only[↓zP,zG,seval];refine Rx ?_
 have :nX a b=false:=by
  rw[<-Fe,qZ];rintro⟨n,hn,hs⟩
  rcases hn with ⟨d,h⟩|⟨d,h⟩|⟨u,w,hu,hw,rfl,Xx⟩
  · obtain⟨i,hi,e⟩:=hTn n d (.inl h);rw[eM i hi n e] at hs;cases hs
  · obtain⟨i,hi,e⟩:=hTn n d (.inr h);rw[eM i hi n e] at hs;cases hs
  have :=hnu u ((mU u).2 hu) w ((mW w).2 hw);rw[Af Xx,hs] at this;cases this
 rw[this];rfl
theorem yy:∀c:Fin 256,YH c.1=((decide (97<=c.1)&&decide (c.1<=122))||(decide (65<=c.1)&&decide (c.1<=90))):=by decide
theorem Yo {c:Nat} (hc:c<256) (H:aA):Sg 121 [.int .u8 c] H (.ret (.bool (YH c))) H:=by
 refine So aVk (by simp only[sf]) ?_ H;unfold aKy;dsimp only;have hl:=yy ⟨c,hc⟩;simp only at hl;rw[hl];have d1:decide ((c:Int)≥97)=decide (97<=c):=by rw[Bb];omega
 have d2:decide ((c:Int)<=122)=decide (c<=122):=by rw[Bb];omega
 have d3:decide ((c:Int)≥65)=decide (65<=c):=by rw[Bb];omega
 have d4:decide ((c:Int)<=90)=decide (c<=90):=by rw[Bb];omega
 generalize decide (97<=c)=A at *;generalize decide (c<=122)=B at *;generalize decide (65<=c)=C at *;generalize decide (c<=90)=D at *
 cases A with
 |true=>
  cases B with
  |true=>simp only[↓zP,zJ,seval,d1,d2,mL];refine Rx ?_;rfl
  |false=>
   cases C with
   |true=>simp only[↓zP,zJ,seval,d1,d2,d3,d4];refine Rx ?_;rfl
   |false=>simp only[↓zP,zJ,seval,d1,d2,d3];refine Rx ?_;rfl
 |false=>
  cases C with
  |true=>simp only[↓zP,zJ,seval,d1,d3,d4];refine Rx ?_;simp[mY]
  |false=>simp only[↓zP,zJ,seval,d1,d3];refine Rx ?_;simp[mY]
theorem WE (s:List UInt8) (hlen:s.length<2^63) (H:aA):Sg 86 [.str s] H (.ret (.bool (mH s))) H:=by
 refine So bGp (by simp only[sf]) ?_ H;unfold W86;dsimp only;have d1:decide ((s.length:Int)<1)= !decide (1<=s.length):=by rw[<-Im,Bb];omega
 have d2:decide ((s.length:Int)>32)= !decide (s.length<=32):=by rw[<-Im,Bb];omega
 refine bQ ?_;simp only[↓zP,zG,seval];refine fM ?_
 cases h1:decide (1<=s.length) with
 |false=>rw[h1] at d1;simp only[↓zP,zJ,seval,d1];refine Rx ?_;unfold mH;rw[h1];simp[mY]
 |true=>
 rw[h1] at d1
 cases h2:decide (s.length<=32) with
 |false=>rw[h2] at d2;simp only[↓zP,zJ,seval,d1,d2];refine Rx ?_;unfold mH;rw[h2];simp[mY]
 |true=>
 rw[h2] at d2;have h2':=Cc h2;simp only[↓zP,zJ,seval,d1,d2];refine bR ?_;refine aG fun K hK=>?_;simp only[↓zP,zG,seval];refine bN [] (fun i vs H'=>∀k,k<i->EL k (s.getD k 0).toNat=true) 0 s.length (Az _) (by omega) (by decide) ?_ ?_ ?_ ?_ ?_
 · simp only[zB,seval]
 · exact fun k hk=>absurd hk (As _)
 · rintro i f H1 h0 hi hk e1 _;have f0:f 0=.str s:=hk 0 rfl;simp only[↓zP,zG,seval,e1,f0];exact tB (by omega)
 · rintro i f H1 h0 hi hk e1 hJ;have f0:f 0=.str s:=hk 0 rfl
   have hg:s[i]?=some (s.getD i 0):=(by simp[List.getD,hi]);have wz:(s.getD i 0).toNat<256:=(s.getD i 0).toNat_lt
   have bM:EL i (s.getD i 0).toNat=true->∀k,k<i+1->EL k (s.getD k 0).toNat=true:=fun h k hk=>by
    by_cases e:k=i
    · subst e;exact h
    exact hJ k (by omega)
   have eM:EL i (s.getD i 0).toNat=false->mH s=false:=fun h=>by
    have :(List.range s.length).all (fun k=>EL k (s.getD k 0).toNat)=false:=by rw[Ec];exact⟨i,Ba.2 hi,by rw[h];decide⟩
    unfold mH;rw[this];rfl
   have bDk:=Yo wz;refine aF ?_;refine aG fun K2 bK=>?_;simp only[↓zP,zG,seval,e1,f0,aB,hg];refine bW (bDk _) ?_;generalize hb:s.getD i 0=b at *;generalize hc:b.toNat=c at *;have d4:((i:Int)==0)=decide (i=0):=by rw[Il,Bb];omega
   have d5:((c:Int) != 95)= !decide (c=95):=by have :((c:Int)==95)=decide (c=95):=(by rw[Il,Bb];omega);rw[bne,this]
   have d6:decide ((c:Int)<48)= !decide (48<=c):=(by rw[<-Im,Bb];omega);have d7:decide ((c:Int)>57)= !decide (c<=57):=(by rw[<-Im,Bb];omega);unfold EL at bM eM;generalize YH c=LC at *;generalize decide (i=0)=D4 at *;generalize decide (c=95)=D5 at *;generalize decide (48<=c)=D6 at *;generalize decide (c<=57)=D7 at *
   cases LC with
   |true=>simp only[↓zP,zJ,seval,mL];apply bK;clear bK K2;simp only[↓zP,zG,seval];exact bM (by simp)
   |false=>
    cases D4 with
    |true=>simp only[↓zP,zJ,seval,e1,d4,mL];apply bK;clear bK K2;simp only[↓zP,zG,seval];refine Rx ?_;rw[eM (by simp)];rfl
    |false=>
     cases D5 with
     |true=>simp only[↓zP,zJ,seval,f0,e1,aB,hg,hc,d4,d5,mL];apply bK;clear bK K2;simp only[↓zP,zG,seval];exact bM (by simp)
     |false=>
      cases D6 with
      |false=>simp only[↓zP,zJ,seval,f0,e1,aB,hg,hc,d4,d5,d6];apply bK;clear bK K2;simp only[↓zP,zG,seval];refine Rx ?_;rw[eM (by simp)];rfl
      |true=>
       cases D7 with
       |false=>simp only[↓zP,zJ,seval,f0,e1,aB,hg,hc,d4,d5,d6,d7];apply bK;clear bK K2;simp only[↓zP,zG,seval];refine Rx ?_;rw[eM (by simp)];rfl
       |true=>simp only[↓zP,zJ,seval,f0,e1,aB,hg,hc,d4,d5,d6,d7];apply bK;clear bK K2;simp only[↓zP,zG,seval];exact bM (by simp)
 rintro f H1 hk hJ
 have bM:(List.range s.length).all (fun k=>EL k (s.getD k 0).toNat)=true:=by rw[Aw];exact fun k hk=>hJ k (Ba.1 hk)
 simp only[↓zP,seval];apply hK;clear hK K;simp only[↓zP,zG,seval];refine Rx ?_;unfold mH;rw[bM,h1,h2];rfl
theorem Un {v:aI.V}:vM v=true↔∃c,c<3/\(v.at c>4096\/v.at c< -4096):=by
 unfold vM;simp only[Dp,Bg];constructor
 · rintro(h|h|h)
   · exact⟨0,by decide,h⟩
   · exact⟨1,by decide,h⟩
   exact⟨2,by decide,h⟩
 rintro⟨c,hc,h⟩
 match c,hc with
 |0,_=>exact .inl h
 |1,_=>exact .inr (.inl h)
 |2,_=>exact .inr (.inr h)
theorem nt {tag:Nat} (ht:Nat.blt tag 2=true) {l:List aI.V} (hlen:l.length<2^30) (H:aA):
 Sg 88 [.agg [.aU tag 3 (bS l)]] H (.ret (.bool (!l.any vM))) H:=by
 refine So bGq (by simp only[sf,cV ht]) ?_ H;unfold W88;dsimp only;have xL:(bS l).length=l.length:=aN _;simp only[↓zP,zJ,seval];refine bN [] (fun i _ H'=>H'.get 0=some (.cells [.aU tag 3 (bS l)] false)/\∀v∈l.take i,vM v=false) 0 l.length (Az _) (by omega) (by decide) ?_ ?_ ?_ ?_ ?_
 · simp only[zB,seval]
 · exact⟨by simp only[zI,seval],fun v hv=>by simp at hv⟩
 · rintro i f H1 h0 hi hk e1 ⟨g0,_⟩;have f1:f 1=.ref 0 0:=hk 1 rfl;simp only[↓zP,zJ,seval,e1,f1,g0,xL];exact tB (by omega)
 · rintro i f H1 h0 hi hk e1 ⟨g0,eM⟩;have f1:f 1=.ref 0 0:=hk 1 rfl;have hg:=cF hi;have vO:=Ac hi
   have hx:∀v,v∈l.take (i+1)->v∈l.take i\/v=l[i]:=fun v hv=>by
    rw[Al,An] at hv
    rcases hv with h|h
    · exact .inl h
    simp[hi] at h;exact .inr h
   generalize l[i]=x at *;refine aF ?_;refine bQ ?_;simp only[↓zP,zG,seval];refine bR ?_;refine bN [] (fun j _ H'=>H'.get 0=some (.cells [.aU tag 3 (bS l)] false)/\∀c,c<j->¬(x.at c>4096)/\¬(x.at c< -4096)) 0 3 (Az _) (by decide) (by decide) ?_ ?_ ?_ ?_ ?_
   · simp only[zB,seval]
   · exact⟨g0,fun c hc=>absurd hc (As _)⟩
   · rintro j g H2 Nq hj dP e2 hJ;simp only[↓zP,zG,seval,e2];exact tB (by omega)
   · rintro j g H2 Nq hj dP e2 ⟨EV,hc⟩;have u1:g 1=.ref 0 0:=(by rw[dP 1 rfl];simp only[zB,seval];exact f1);have u3:g 3=.int .i64 i:=(by rw[dP 3 rfl];simp only[zB,seval];exact e1);have EX:(x.at j>4096\/x.at j< -4096)->l.any vM=true:=fun h=>Bu.2 ⟨x,vO,Un.2 ⟨j,hj,h⟩⟩;have Wh:1<=(List.drop j (cG x)).length:=(by rw[Hi,aM];omega);have hdg:(List.drop j (cG x)).getD 0 aD=.int .i64 (x.at j):=(by rw[<-jP x hj];simp[List.getD]);refine aF ?_;refine aG fun K2 bK=>?_;by_cases c1:x.at j>4096
     · have d1:=Af c1;simp only[↓zP,zJ,seval,e2,u1,u3,EV,aB,aN,hi,hg,hj,Wh,hdg,d1];apply bK;clear bK K2;simp only[↓zP,zG,seval];refine Rx ?_;rw[EX (.inl c1)];rfl
     have d1:=Ae c1;by_cases c2:x.at j< -4096
     · have d2:=Af c2;simp only[↓zP,zJ,seval,e2,u1,u3,EV,aB,aN,hi,hg,hj,Wh,hdg,d1,d2];apply bK;clear bK K2;simp only[↓zP,zG,seval];refine Rx ?_;rw[EX (.inr c2)];rfl
     have d2:=Ae c2;simp only[↓zP,zJ,seval,e2,u1,u3,EV,aB,aN,hi,hg,hj,Wh,hdg,d1,d2];apply bK;clear bK K2;simp only[↓zP,zG,seval];refine⟨EV,fun c h=>?_⟩;by_cases hcj:c=j
     · subst hcj;exact⟨c1,c2⟩
     exact hc c (by omega)
   rintro g H2 dP ⟨EV,hc⟩;simp only[↓zP,seval];refine⟨EV,fun v hv=>?_⟩
   rcases hx v hv with h|rfl
   · exact eM v h
   rw[<-Fe,Un];rintro⟨c,h1,h2⟩;have :=hc c h1;omega
 rintro f H1 hk ⟨g0,eM⟩;rw[Ao] at eM;simp only[↓zP,seval];refine Rx ?_
 have :l.any vM=false:=by rw[Ek];exact fun v hv=>by rw[eM v hv];decide
 rw[this];rfl
theorem bq (n:aI.V):∀(l:List aI.V) (m:Int),wW (aI.neg n) (-m) l= -(wN n m l)
 |[],m=>rfl
 |v::l,m=>by
  have ih:=bq n l;unfold wW wN at ih ⊢;simp only[Hq]
  have :(if aI.dot (aI.neg n) v< -m then aI.dot (aI.neg n) v else -m)= -(if aI.dot n v>m then aI.dot n v else m):=by
   rw[oZ];by_cases h:aI.dot n v>m
   · rw[if_pos h,if_pos (by omega)]
   rw[if_neg h,if_neg (by omega)]
  rw[this,ih]
theorem Zz (n:aI.V):∀(l:List aI.V) (m:Int),wN (aI.neg n) (-m) l= -(wW n m l)
 |[],m=>rfl
 |v::l,m=>by
  have ih:=Zz n l;unfold wW wN at ih ⊢;simp only[Hq]
  have :(if aI.dot (aI.neg n) v> -m then aI.dot (aI.neg n) v else -m)= -(if aI.dot n v<m then aI.dot n v else m):=by
   rw[oZ];by_cases h:aI.dot n v<m
   · rw[if_pos h,if_pos (by omega)]
   rw[if_neg h,if_neg (by omega)]
  rw[this,ih]
theorem LO (a b:List aI.V) (n:aI.V):oT a b n=oT b a n:=by unfold oT;exact Bool.or_comm _ _
theorem aBl (a b:List aI.V) (n:aI.V):oT a b (aI.neg n)=oT a b n:=by
 unfold oT;simp only[oZ,bq,Zz];rw[Bool.or_comm];congr 1
 · rw[Bb];omega
 rw[Bb];omega
theorem Ug {a b:List aI.V} (h:nX a b=true):nX b a=true:=by
 obtain⟨n,hD,hs⟩:=qZ.1 h
 rcases hD with hF|hF|⟨u,w,hu,hw,rfl,hn⟩
 · exact qZ.2 ⟨n,.inr (.inl hF),by rw[LO];exact hs⟩
 · exact qZ.2 ⟨n,.inl hF,by rw[LO];exact hs⟩
 refine qZ.2 ⟨aI.neg (aI.aT u w),.inr (.inr ⟨w,u,hw,hu,(XU u w).symm,fun e=>TO hn e⟩),?_⟩;rw[aBl,LO];exact hs
theorem jf (a b:List aI.V):nX a b=nX b a:=by rw[Cg];exact⟨Ug,Ug⟩
theorem Yd {name:List UInt8} (wO:name.length<2^63) {ps:List (AV×List aI.V)} (GC:∀p∈ps,tJ p) (hlen:∀p∈ps,p.2.length<2^30) (qQ:ps.length<2^30) (m0 m1 r0 r1:Int) (H:aA):
 Sg 53 [.agg (kR name (.aU 0 1 (sI ps)) m0 m1 r0 r1)] H (.ret (.int .i64 (lT name (ps.map (·.2)) m0 m1 r0 r1))) H:=by
 have JX:bL [AV.agg (kR name (.aU 0 1 (sI ps)) m0 m1 r0 r1)]=true:=by simp only[sf,kR,Oy GC]
 refine So bAs JX ?_ H;have xL:(ps.map (·.2)).length=ps.length:=Ai _;unfold W53;dsimp only;have DJ:(sI ps).length=ps.length:=Ai _;have d1:decide ((ps.length:Int)<1)=decide (ps.length<1):=by rw[Bb];omega
 have d2:decide ((ps.length:Int)>8)=decide (8<ps.length):=by rw[Bb];omega
 refine bQ ?_;simp only[↓zP,zJ,seval,kR];refine bR ?_;generalize hX:(aA.mk 0 .nil).alloc _=HA;have g0:HA.get 0=some (.cells [.str name,.aU 0 1 (sI ps),.int .i64 m0,.int .i64 m1,.int .i64 r0,.int .i64 r1] false):=by subst hX;simp only[zI,seval]
 clear hX;have kj:=WE name wO;refine bQ ?_;simp only[↓zP,zJ,seval,g0];refine bW (kj _) ?_
 cases hv:mH name with
 |false=>simp only[↓zP,zJ,seval];refine Rx ?_;unfold lT;rw[if_pos hv];rfl
 |true=>
 simp only[↓zP,zJ,seval];refine fM ?_
 cases h1:decide (ps.length<1) with
 |true=>rw[h1] at d1;simp only[↓zP,zJ,seval,g0,DJ,d1];refine Rx ?_;unfold lT;rw[if_neg (by rw[hv];decide),if_pos (.inl (by rw[xL];exact Cc h1))];rfl
 |false=>
 rw[h1] at d1
 cases h2:decide (8<ps.length) with
 |true=>rw[h2] at d2;simp only[↓zP,zJ,seval,g0,DJ,d1,d2];refine Rx ?_;unfold lT;rw[if_neg (by rw[hv];decide),if_pos (.inr (by rw[xL];exact Cc h2))];rfl
 |false=>
 rw[h2] at d2
 have HV:XK m0 m1 r0 r1=true->lT name (ps.map (·.2)) m0 m1 r0 r1=1:=fun hb=>by unfold lT;rw[if_neg (by rw[hv];decide),if_neg (by rw[xL];intro h;rcases h with h|h;exact Cs h1 h;exact Cs h2 h),if_pos hb]
 have hB0:XK m0 m1 r0 r1=false->lT name (ps.map (·.2)) m0 m1 r0 r1=xD (ps.map (·.2)):=fun hb=>by unfold lT;rw[if_neg (by rw[hv];decide),if_neg (by rw[xL];intro h;rcases h with h|h;exact Cs h1 h;exact Cs h2 h),if_neg (by rw[hb];decide)]
 unfold XK at HV hB0;simp only[↓zP,zJ,seval,g0,DJ,d1,d2];refine bR ?_;refine dT fun f hf=>?_;have f1:f 1=.ref 0 0:=by subst hf;simp only[zB,seval]
 clear hf;refine aG fun K hK=>?_
 cases Xl:decide (m0<1) with
 |true=>rw[Xl] at HV;simp only[↓zP,zJ,seval,f1,g0,nC,Xl];refine Rx ?_;rw[HV (by simp)];rfl
 |false=>
 cases jo:decide (m1<m0) with
 |true=>rw[jo] at HV;simp only[↓zP,zJ,seval,f1,g0,nC,Xl,jo];refine Rx ?_;rw[HV (by simp)];rfl
 |false=>
 cases g3':decide (m1>1099511627776) with
 |true=>rw[g3'] at HV;simp only[↓zP,zJ,seval,f1,g0,nC,Xl,jo,g3'];refine Rx ?_;rw[HV (by simp)];rfl
 |false=>
 cases g4':decide (r0<0) with
 |true=>rw[g4'] at HV;simp only[↓zP,zJ,seval,f1,g0,nC,Xl,jo,g3',g4'];refine Rx ?_;rw[HV (by simp)];rfl
 |false=>
 cases g5':decide (r1<r0) with
 |true=>rw[g5'] at HV;simp only[↓zP,zJ,seval,f1,g0,nC,Xl,jo,g3',g4',g5'];refine Rx ?_;rw[HV (by simp)];rfl
 |false=>
 cases g6':decide (r1>4000) with
 |true=>rw[g6'] at HV;simp only[↓zP,zJ,seval,f1,g0,nC,Xl,jo,g3',g4',g5',g6'];refine Rx ?_;rw[HV (by simp)];rfl
 |false=>
 rw[Xl,jo,g3',g4',g5',g6'] at hB0;rw[hB0 rfl] at hK ⊢;clear HV hB0;simp only[↓zP,zJ,seval,f1,g0,nC,Xl,jo,g3',g4',g5',g6'];apply hK;clear hK K;refine dT fun g hf=>?_;have g1:g 1=.ref 0 0:=by subst hf;simp only[zB,seval];exact f1
 clear hf f1 f
 have hF:∀i (hi:i<ps.length),(∀j (hj:j<i),fQ (ps[j]'(Ci hj hi)).2=0)->fQ ps[i].2≠0->xD (ps.map (·.2))=fQ ps[i].2:=fun i hi h1 h2=>by have :=PA (ls:=ps.map (·.2)) (i:=i) (by rw[xL];exact hi) (fun j hj=>by rw[Ch];exact h1 j hj) (by rw[Ch];exact h2);rw[this,Ch]
 generalize Zr:[AV.str name,.aU 0 1 (sI ps),.int .i64 m0,.int .i64 m1,.int .i64 r0,.int .i64 r1]=bc at *;have bg1:bc.getD 1 aD=.aU 0 1 (sI ps):=by subst Zr;rfl
 have bl:bc.length=6:=by subst Zr;rfl
 refine aG fun K hK=>?_;refine bQ ?_;simp only[↓zP,zG,seval];refine bR ?_;refine bN [] (fun i _ H'=>H'=HA/\∀j (hj:j<i) (hl:j<ps.length),fQ ps[j].2=0) 0 ps.length (Az _) (by omega) (by decide) ?_ ?_ ?_ ?_ ?_
 · simp only[zB,seval]
 · exact⟨rfl,fun j hj=>absurd hj (As _)⟩
 · rintro i f H1 h0 hi hk e1 ⟨rfl,_⟩;have f1:f 1=.ref 0 0:=by rw[hk 1 rfl];simp only[zB,seval];exact g1
   simp only[↓zP,zJ,seval,e1,f1,g0,bl,bg1,DJ];exact tB (by omega)
 · rintro i f H1 h0 hi hk e1 ⟨rfl,hJ⟩;have f1:f 1=.ref 0 0:=by rw[hk 1 rfl];simp only[zB,seval];exact g1
   have hg:(sI ps).getD i []=[ps[i].1]:=eR hi;have hp:=GC _ (Ac hi);have hl:=hlen _ (Ac hi);have hFi:=hF i hi (fun j hj=>hJ j hj (Ci hj hi))
   have hJn:fQ ps[i].2=0->∀j (hj:j<i+1) (hl:j<ps.length),fQ ps[j].2=0:=fun h j hj hl=>by
    by_cases e:j=i
    · subst e;exact h
    exact hJ j (by omega) hl
   generalize ps[i]=p at *;obtain⟨pv,l⟩:=p;simp only at hg hp hl hFi hJn;have hc:=PD hp hl;simp only at hc;refine aF ?_;refine bQ ?_;simp only[↓zP,zJ,seval,e1,f1,g0,bl,bg1,aB,DJ,hi,hg];refine bW (hc _) ?_;simp only[↓zP,zG,seval];refine bR ?_;refine aG fun K2 bK=>?_;by_cases he:pQ l=0
   · have hb:(pQ l != 0)=false:=(by simp[he]);obtain⟨_,_,_,_,aUg,OA,aUk⟩:=xP he
     obtain⟨rfl⟩:pv=.aU 0 3 (bS l):=by
      rcases hp with ⟨_,h⟩|h
      · exact absurd h OA
      exact h
     have hsh:=nt (tag:=0) rfl hl;simp only[↓zP,zG,seval,hb];apply bK;clear bK K2;simp only[↓zP,zJ,seval,e1,f1,g0,bl,bg1,aB,DJ,hi,hg];refine bW (hsh _) ?_
     cases hfa:l.any vM with
     |true=>have Sz:fQ l=1:=(by unfold fQ;rw[if_neg (by simp[he]),hfa];rfl);simp only[↓zP,zJ,seval];refine Rx ?_;rw[hFi (by rw[Sz];decide),Sz];rfl
     |false=>have aRc:fQ l=0:=(by unfold fQ;rw[if_neg (by simp[he]),hfa];rfl);simp only[↓zP,zJ,seval];exact⟨trivial,hJn aRc⟩
   have hb:(pQ l != 0)=true:=(by simp[he]);have hpc:fQ l=pQ l:=(by unfold fQ;rw[if_pos he]);simp only[↓zP,zG,seval,hb];refine Rx ?_;rw[hFi (by rw[hpc];exact he),hpc];rfl
 rintro f H1 hk ⟨rfl,hJ⟩;have bM:∀j (hl:j<ps.length),fQ ps[j].2=0:=fun j hl=>hJ j hl hl
 have hR:=FO (ls:=ps.map (·.2)) (fun l hl=>by
  obtain⟨p,hp,rfl⟩:=Bf.1 hl;obtain⟨j,hj,rfl⟩:=Dm hp
  exact bM j hj)
 have OF:∀j (hl:j<ps.length),pQ ps[j].2=0/\ps[j].1=.aU 0 3 (bS ps[j].2)/\∀v∈ps[j].2,bT (2^12) v:=fun j hl=>by
  obtain⟨h0,hfv⟩:=cz (bM j hl);refine⟨h0,?_,fun v hv=>?_⟩
  · rcases GC _ (Ac hl) with ⟨_,h⟩|h
    · rw[h,GZ] at h0;cases h0
    exact h
  have :=hfv v hv;simp only[vM,Eg,Bk] at this;unfold bT;omega
 have f1:f 1=.ref 0 0:=by rw[hk 1 rfl];simp only[zB,seval];exact g1
 simp only[↓zP,seval];apply hK;clear hK K;refine aG fun K hK=>?_;refine bQ ?_;simp only[↓zP,zG,seval];refine bR ?_;refine bN [] (fun i _ H'=>H'=H1/\∀a k (ha:a<i) (hl:a<ps.length) (hk:k<a),nX ps[a].2 (ps[k]'(Ci hk hl)).2=true) 0 ps.length (Az _) (by omega) (by decide) ?_ ?_ ?_ ?_ ?_
 · simp only[zB,seval]
 · exact⟨rfl,fun a k ha=>absurd ha (As _)⟩
 · rintro i f2 H2 h0 hi dP e2 ⟨rfl,_⟩;have u1:f2 1=.ref 0 0:=by rw[dP 1 rfl];simp only[zB,seval];exact f1
   simp only[↓zP,zJ,seval,e2,u1,g0,bl,bg1,DJ];exact tB (by omega)
 · rintro i f2 H2 h0 hi dP e2 ⟨rfl,vz⟩;have u1:f2 1=.ref 0 0:=by rw[dP 1 rfl];simp only[zB,seval];exact f1
   have hg:(sI ps).getD i []=[ps[i].1]:=eR hi;obtain⟨sQ,pU,UA⟩:=OF i hi
   have hJn:(∀k (hk:k<i),nX ps[i].2 (ps[k]'(Ci hk hi)).2=true)->∀a k (ha:a<i+1) (hl:a<ps.length) (hk:k<a),nX ps[a].2 (ps[k]'(Ci hk hl)).2=true:=fun h a k ha hl hk=>by
    by_cases e:a=i
    · subst e;exact h k hk
    exact vz a k (by omega) hl hk
   have hov:∀k (hk:k<i),nX ps[i].2 (ps[k]'(Ci hk hi)).2=false->xD (ps.map (·.2))=150:=fun k hk h=>by have :=On (ls:=ps.map (·.2)) (i:=i) (k:=k) (by rw[xL];exact hi) hk (by rw[Ch,Ch];exact h);rw[hR,this];rfl
   rw[pU] at hg;refine aF ?_;refine bQ ?_;simp only[↓zP,zG,seval];refine bR ?_;refine bN [] (fun k vs H'=>H'=H2/\∀a (ha:a<k) (hl:a<i),nX ps[i].2 (ps[a]'(Ci hl hi)).2=true) 0 i (Az _) (by omega) (by decide) ?_ ?_ ?_ ?_ ?_
   · simp only[zB,seval]
   · exact⟨rfl,fun a ha=>absurd ha (As _)⟩
   · rintro k f3 H3 h0 Xt mB e3 _;have w5:f3 5=.int .i64 i:=(by rw[mB 5 rfl];simp only[zB,seval];exact e2);simp only[↓zP,zG,seval,e3,w5];exact tB (by omega)
   · rintro k f3 H3 h0 Xt mB e3 ⟨rfl,hJ3⟩;have w1:f3 1=.ref 0 0:=(by rw[mB 1 rfl];simp only[zB,seval];exact u1);have w5:f3 5=.int .i64 i:=(by rw[mB 5 rfl];simp only[zB,seval];exact e2);have xW:=Ci Xt hi;obtain⟨Pg,zH,QJ⟩:=OF k xW;have VH:(sI ps).getD k []=[ps[k].1]:=eR xW;rw[zH] at VH;have hd:=Ta (ta:=0) (tb:=0) rfl rfl Pg sQ QJ UA
     have aQj:nX ps[i].2 ps[k].2=true->∀a (ha:a<k+1) (hl:a<i),nX ps[i].2 (ps[a]'(Ci hl hi)).2=true:=fun h a ha hl=>by
      by_cases e:a=k
      · subst e;exact h
      exact hJ3 a (by omega) hl
     have aRb:=hov k Xt;rw[jf] at hd;generalize ps[k]=q at *;generalize bEa:ps[i]=p at *;refine aF ?_;refine bQ ?_;refine Dz ?_;simp only[↓zP,zJ,seval,zD,w1,w5,e3,g0,bl,bg1,aB,DJ,hi,xW,hg,VH];refine eE (hd _) ?_;simp only[↓zP,zJ,seval,zD];refine bR ?_
     cases hdb:nX p.2 q.2 with
     |true=>simp only[↓zP,zJ,seval];exact⟨trivial,aQj hdb⟩
     |false=>simp only[↓zP,zJ,seval];refine Rx ?_;rw[aRb hdb];rfl
   rintro f3 H3 mB ⟨rfl,hJ3⟩;simp only[↓zP,seval];exact⟨trivial,hJn fun k hk=>hJ3 k hk hk⟩
 rintro f2 H2 dP ⟨rfl,vz⟩
 have :=BC (ls:=ps.map (·.2)) (fun a k ha hk=>by
  rw[Ch,Ch]
  exact vz a k (by rwa [xL] at ha) (by rwa [xL] at ha) hk)
 simp only[↓zP,seval];apply hK;clear hK K;simp only[↓zP,zG,seval];refine Rx ?_;rw[hR,this];rfl
theorem Ye {name:List UInt8} (wO:name.length<2^63) (m0 m1 r0 r1:Int) (H:aA):
 Sg 53 [.agg (kR name .aS m0 m1 r0 r1)] H (.ret (.int .i64 (lT name [] m0 m1 r0 r1))) H:=by
 refine So bAs (by simp only[sf,kR]) ?_ H;unfold W53;dsimp only;refine bQ ?_;simp only[↓zP,zJ,seval,kR];refine bR ?_;have kj:=WE name wO;have d1:decide ((0:Int)<1)=true:=rfl;refine bQ ?_;simp only[↓zP,zJ,seval];refine bW (kj _) ?_
 cases hv:mH name with
 |false=>simp only[↓zP,zJ,seval];refine Rx ?_;unfold lT;rw[if_pos hv];rfl
 |true=>
 simp only[↓zP,zJ,seval];refine bR ?_;refine aG fun K hK=>?_;simp only[↓zP,zJ,seval,Gn];refine Rx ?_;unfold lT;rw[if_neg (by rw[hv];decide),if_pos (.inl (by decide))];rfl
theorem mc {name:List UInt8} (wO:name.length<2^63) {pv:AV} {ps:List (AV×List aI.V)} (Ks:KK pv ps) (GC:∀p∈ps,tJ p) (hlen:∀p∈ps,p.2.length<2^30) (qQ:ps.length<2^30) (m0 m1 r0 r1:Int) (H:aA):
 Sg 53 [.agg (kR name pv m0 m1 r0 r1)] H (.ret (.int .i64 (lT name (ps.map (·.2)) m0 m1 r0 r1))) H:=by
 rcases Ks with ⟨h1,h2⟩|h1
 · rw[h1,h2];exact Ye wO m0 m1 r0 r1 H
 rw[h1];exact Yd wO GC hlen qQ m0 m1 r0 r1 H
end Go.Proofs.YtndkpgceodimiaaGreatDoor
namespace Go.Proofs.YtndkpgceodimiaaGreatDoor
open Go Go.Av
attribute [local congr] aV aO aP aL aX aR aQ aH aY
attribute [local irreducible] FC bY eX
theorem Th.free {t:Th} (h:t.OK):bL t.cs=true:=by simp only[Th.cs,kR,gS,sf,jC,h.parts.free h.part]
theorem oh {t:Th} (pG:t.OK) (Xs:t.Few) (H:aA):Sg 29 [.agg t.cs] H (.ret (.int .i64 (QU t))) H:=by
 refine So bFa (by simp only[bL,AV.free,Th.free pG];rfl) ?_ H;unfold W29;dsimp only;have JY:=Th.len pG;have k0:t.cs.getD 0 aD=.int .i64 t.kind:=rfl;have k2:t.cs.getD 2 aD=t.pv:=rfl;have k6:(t.cs.drop 1).take 6=kR t.name t.pv t.m0 t.m1 t.r0 t.r1:=rfl
 have k7:(t.cs.drop 7).take 7=iC t.store:=by have :t.cs.drop 7=iC t.store:=rfl;rw[this,Ar (by rw[cN,pG.store];decide)]
 have hp:=LM pG.store;have OC:((decide (t.kind=1)||decide (t.kind=2))=false\/iO t.store≠0)->QU t=1:=fun h=>by unfold QU;rw[if_pos h]
 refine bQ ?_;simp only[↓zP,zJ,seval];refine bR ?_;generalize hX:(aA.mk 0 .nil).alloc _=HA;have g0:HA.get 0=some (.cells t.cs false):=by subst hX;simp only[zI,seval]
 clear hX;refine dT fun f jL=>?_;have f1:f 1=.ref 0 0:=by subst jL;simp only[zB,seval]
 clear jL;refine aG fun K2 bK=>?_;by_cases hkd:t.kind=1\/t.kind=2;rotate_left
 · have d1:(t.kind != 1)=true:=by rw[Dc];omega
   have d2:(t.kind != 2)=true:=(by rw[Dc];omega);simp only[↓zP,zJ,seval,f1,g0,JY,k0,d1,d2];refine Rx ?_;rw[OC (.inl (by simp;omega))];rfl
 have key:∀f:dD,f 1=.ref 0 0->iO t.store=0->K2 f [] HA:=by
  intro f f1 Tz;apply bK;clear bK K2;have hck:=mc pG.name pG.parts pG.part Xs.2 Xs.1 t.m0 t.m1 t.r0 t.r1;have Nt:(kR t.name t.pv t.m0 t.m1 t.r0 t.r1).length=6:=rfl
  have aQz:¬((decide (t.kind=1)||decide (t.kind=2))=false\/iO t.store≠0):=by
   rintro(h|h)
   · simp at h;omega
   exact h Tz
  have Nw:QU t=if lT t.name (t.ps.map (·.2)) t.m0 t.m1 t.r0 t.r1≠0 then lT t.name (t.ps.map (·.2)) t.m0 t.m1 t.r0 t.r1 else if t.ps.all (fun p=>YD p.2) then 0 else 1:=by unfold QU;rw[if_neg aQz]
  generalize lT t.name (t.ps.map (·.2)) t.m0 t.m1 t.r0 t.r1=cb at *;refine bQ ?_;simp only[↓zP,zJ,seval,f1,g0,JY,k6];refine bW (hck _) ?_;simp only[↓zP,zG,seval];refine fM ?_;by_cases VF:cb=0;rotate_left
  · have d3:(cb != 0)=true:=by rw[Dc];exact VF
    simp only[↓zP,zG,seval,d3];refine Rx ?_;rw[Nw,if_pos VF];rfl
  have d3:(cb != 0)=false:=by rw[VF];rfl
  rw[if_neg (fun h=>h VF)] at Nw;simp only[↓zP,zG,seval,d3];refine bR ?_
  have hpr:lO t.pv 1 (sI t.ps):=by
   rcases pG.parts with ⟨h1,h2⟩|h
   · exact .inl ⟨h1,by rw[h2];rfl⟩
   exact .inr h
  have kr:=hpr.len;simp only[cX] at kr;have DJ:(sI t.ps).length=t.ps.length:=Ai _;rw[DJ] at kr;have bHt:=Xs.1;refine aG fun K2 bK=>?_;simp only[↓zP,zG,seval];refine bN [] (fun i vs H'=>H'=HA/\∀p∈t.ps.take i,YD p.2=true) 0 t.ps.length (Az _) (by omega) (by decide) ?_ ?_ ?_ ?_ ?_
  · simp only[zB,seval]
  · exact⟨rfl,fun p hp=>by simp at hp⟩
  · rintro i f3 H1 h0 hi hk e1 ⟨rfl,_⟩;have u1:f3 1=.ref 0 0:=by rw[hk 1 rfl];simp only[zB,seval];exact f1
    simp only[↓zP,zJ,seval,e1,u1,g0,JY,k2,kr];exact tB (by omega)
  · rintro i f3 H1 h0 hi hk e1 ⟨rfl,bM⟩;have u1:f3 1=.ref 0 0:=by rw[hk 1 rfl];simp only[zB,seval];exact f1
    have k2':t.pv=.aU 0 1 (sI t.ps):=hpr.aU (i:=i) (by rw[DJ];exact hi);have xj:(sI t.ps).getD i []=[t.ps[i].1]:=(by simp[sI,hi]);have QF:=pG.part _ (Ac hi);have hlj:=Xs.2 _ (Ac hi)
    have iE:YD t.ps[i].2=true->∀p∈t.ps.take (i+1),YD p.2=true:=fun h p hp=>by
     rw[Al,An] at hp
     rcases hp with hp|hp
     · exact bM p hp
     simp[hi] at hp;subst hp;exact h
    have eM:YD t.ps[i].2=false->QU t=1:=fun h=>by rw[Nw,if_neg];rw[Aw];intro hh;rw[hh _ (Ac hi)] at h;cases h
    generalize t.ps[i]=q at *;refine aF ?_;simp only[↓zP,zG,seval]
    have lq:∀H:aA,cX (fun _=>q.1) H (.OQ (.tmp 0))=some (.int .i64 q.2.length,H):=fun H=>by
     rcases QF with ⟨h1,h2⟩|h1
     · rw[h1,h2];rfl
     rw[h1];simp[cX,aN]
    simp only[cX] at lq;refine bN [] (fun j vs H'=>H'=H1/\∀w∈(q.2.map vL).take j,wR 4096 w=true) 0 q.2.length (Az _) (by omega) (by decide) ?_ ?_ ?_ ?_ ?_
    · simp only[zB,seval]
    · exact⟨rfl,fun p hp=>by simp at hp⟩
    · rintro j f4 H2 Nq hj dP e2 ⟨rfl,_⟩;have v1:f4 1=.ref 0 0:=(by rw[dP 1 rfl];simp only[zB,seval];exact u1);have v4:f4 4=.int .i64 i:=(by rw[dP 4 rfl];simp only[zB,seval];exact e1);simp only[↓zP,zJ,seval,e2,v1,v4,g0,JY,k2,k2',aB,DJ,hi,xj,lq];exact tB (by omega)
    · rintro j f4 H2 Nq hj dP e2 ⟨rfl,rE⟩;have v1:f4 1=.ref 0 0:=(by rw[dP 1 rfl];simp only[zB,seval];exact u1);have v4:f4 4=.int .i64 i:=by rw[dP 4 rfl];simp only[zB,seval];exact e1
      have hq:q.1=.aU 0 3 (bS q.2):=by
       rcases QF with ⟨h1,h2⟩|h1
       · rw[h2] at hj;exact absurd hj (As _)
       exact h1
      have hgv:=cF hj;have hwv:=mE (m:=4096) (by decide) (w:=vL q.2[j]) rfl;have Ml:j<(q.2.map vL).length:=(by rw[Ai];exact hj);have hme:(q.2.map vL)[j]=vL q.2[j]:=Ch _
      have QG:wR 4096 (vL q.2[j])=true->∀w∈(q.2.map vL).take (j+1),wR 4096 w=true:=fun h p hp=>by
       rw[Al,An] at hp
       rcases hp with hp|hp
       · exact rE p hp
       rw[Ab Ml,hme] at hp;simp only[Fv,Bn] at hp;subst hp;exact h
      have Xz:wR 4096 (vL q.2[j])=false->QU t=1:=fun h=>eM (by
       unfold YD;rw[Ec]
       exact⟨_,Ac Ml,by rw[hme,h];decide⟩)
      have hiv:cG q.2[j]=iC (vL q.2[j]):=rfl;rw[hiv] at hgv;have h3:(iC (vL q.2[j])).length=3:=rfl;generalize vL q.2[j]=w at *;refine aF ?_;simp only[↓zP,zJ,seval,e2,v1,v4,g0,JY,k2,k2',aB,DJ,hi,xj,hq,aN,hj,hgv,oL h3];refine bW (hwv _) ?_
      cases hb:wR 4096 w with
      |true=>simp only[↓zP,zJ,seval];exact⟨trivial,QG hb⟩
      |false=>simp only[↓zP,zJ,seval];refine Rx ?_;rw[Xz hb];rfl
    rintro f4 H2 dP ⟨rfl,rE⟩;simp only[↓zP,seval];refine⟨trivial,iE ?_⟩;unfold YD;rw[Aw];exact fun w hw=>rE w (by rw[Ar (by rw[Ai];omega)];exact hw)
  rintro f3 H1 hk ⟨rfl,bM⟩;rw[Ao] at bM;rw[if_pos (Aw.2 bM)] at Nw;simp only[↓zP,seval];apply bK;clear bK K2;simp only[↓zP,zG,seval];refine Rx ?_;rw[Nw];rfl
 have ke:(t.kind=1/\(t.kind != 1)=false/\True)\/((t.kind != 1)=true/\(t.kind != 2)=false/\True):=by
  rcases hkd with h|h
  · exact .inl ⟨h,by rw[h];rfl,trivial⟩
  exact .inr ⟨by rw[h];rfl,by rw[h];rfl,trivial⟩
 rcases ke with ⟨_,d1,d2⟩|⟨d1,d2,_⟩<;>
 · simp only[↓zP,zJ,seval,f1,g0,JY,k0,d1,d2];simp only[seval,k7];refine bW (hp _) ?_;by_cases Tz:iO t.store=0
   · have d3:(iO t.store != 0)=false:=(by rw[Tz];rfl);simp only[↓zP,zG,seval,d3];exact key _ (by simp only[zB,seval];exact f1) Tz
   have d3:(iO t.store != 0)=true:=(by rw[Dc];exact Tz);simp only[↓zP,zG,seval,d3];refine Rx ?_;rw[OC (.inr Tz)];rfl
theorem Yv {g r0 r1:Int} {ts:List Th} {rs ps:List (List Int)} {tv rv pv:AV} (sH:lO tv 14 (uH ts)) (uY:lO rv 8 (cC rs)) (Ks:lO pv 10 (cC ps)) (ht:∀t∈ts,t.OK)
 (hf:ts.length<=64->∀t∈ts,t.Few) (hr:∀r∈rs,r.length=8) (hp:∀p∈ps,p.length=10) (H:aA):
 Sg 7 [.agg (yC g r0 r1 tv rv pv)] H (.ret (.int .i64 (tN g r0 r1 ts rs ps))) H:=by
 refine So is7 (by simp only[yC,sf,sH.free (kE ht),uY.free (bU _),Ks.free (bU _)]) ?_ H;unfold W7;dsimp only;have lt:=sH.len;have lr:=uY.len;have lp:=Ks.len;simp only[cX] at lt lr lp;rw[dE] at lt;rw[bG] at lr lp;refine bQ ?_;simp only[↓zP,zJ,seval,yC];refine fM ?_;simp only[↓zP,zJ,seval,lt];refine fM ?_;have hY1:vA ts.length rs.length ps.length=true->tN g r0 r1 ts rs ps=2:=fun h=>by unfold tN;rw[if_pos h]
 have QB:vA ts.length rs.length ps.length=false->XL g r0 r1=true->tN g r0 r1 ts rs ps=1:=fun h h2=>by unfold tN;rw[if_neg (by rw[h];decide),if_pos h2]
 have HY:vA ts.length rs.length ps.length=false->XL g r0 r1=false->tN g r0 r1 ts rs ps=if FX [] ts≠0 then FX [] ts
  else if rs.any (KS ts.length) then 1 else if ps.any (KR ts.length) then 1 else 0:=fun h h2=>by unfold tN;rw[if_neg (by rw[h];decide),if_neg (by rw[h2];decide)]
 have Xy:vA ts.length rs.length ps.length=false->ts.length<=64/\rs.length<=16/\ps.length<=16:=fun h=>by simp only[vA,Eg,Bk] at h;omega
 unfold vA at hY1 QB HY Xy;unfold XL at QB HY;generalize dR:decide ((ts.length:Int)>64)=b1 at *;generalize fH:decide ((rs.length:Int)>16)=b2 at *;generalize tS:decide ((ps.length:Int)>16)=b3 at *;cases b1<;>cases b2<;>cases b3;rotate_left
 iterate 7 (simp only[↓zP,zJ,seval,lr,lp,dR,fH,tS];refine Rx ?_;rw[hY1 rfl];rfl)
 obtain⟨n64,m64,p64⟩:=Xy rfl;have QB:=QB rfl;have HY:=HY rfl;have hf:=hf n64;clear hY1 Xy;simp only[↓zP,zJ,seval,lr,lp,dR,fH,tS];refine fM ?_;generalize uK:decide (g<0)=b4 at *;generalize CB:decide (g>1048576)=b5 at *;generalize Nt:decide (r0<0)=b6 at *;generalize wo:decide (r0>r1)=b7 at *;generalize hb8:decide (r1>4000)=b8 at *;cases b4;rotate_left
 · simp only[↓zP,zJ,seval,uK];refine Rx ?_;rw[QB rfl];rfl
 cases b5;rotate_left
 · simp only[↓zP,zJ,seval,uK,CB];refine Rx ?_;rw[QB rfl];rfl
 cases b6;rotate_left
 · simp only[↓zP,zJ,seval,nC,uK,CB,Nt];refine Rx ?_;rw[QB rfl];rfl
 cases b7;rotate_left
 · simp only[↓zP,zJ,seval,nC,uK,CB,Nt,wo];refine Rx ?_;rw[QB rfl];rfl
 cases b8;rotate_left
 · simp only[↓zP,zJ,seval,nC,uK,CB,Nt,wo,hb8];refine Rx ?_;rw[QB rfl];rfl
 have HY:=HY rfl;clear QB;simp only[↓zP,zJ,seval,nC,uK,CB,Nt,wo,hb8];refine bR ?_;clear dR fH tS uK CB Nt wo hb8;generalize hX:(aA.mk 0 .nil).alloc _=HA;have g0:HA.get 0=some (.cells [.int .i64 g,.int .i64 r0,.int .i64 r1,tv,rv,pv] false):=by subst hX;simp only[zI,seval]
 have gn:1<=HA.next:=by subst hX;simp only[zI,seval]
 clear hX;refine dT fun f jL=>?_;have f1:f 1=.ref 0 0:=by subst jL;simp only[zB,seval]
 have f3:f 3=.int .i64 ts.length:=by subst jL;simp only[zB,seval]
 clear jL;refine aG fun K hK=>?_;simp only[↓zP,zG,seval];refine bN [] (fun i vs H'=>H'=HA/\FX [] ts=FX ((ts.take i).map (·.name)) (ts.drop i)) 0 ts.length (Az _) (by omega) (by decide) ?_ ?_ ?_ ?_ ?_
 · simp only[zB,seval]
 · exact⟨rfl,rfl⟩
 · rintro i f' H1 h0 hi hk e1 ⟨rfl,_⟩;have u3:f' 3=.int .i64 ts.length:=by rw[hk 3 rfl];simp only[zB,seval];exact f3
   simp only[↓zP,zG,seval,e1,u3];exact tB (by omega)
 · rintro i f' H1 h0 hi hk e1 ⟨rfl,MQ⟩;have u1:f' 1=.ref 0 0:=by rw[hk 1 rfl];simp only[zB,seval];exact f1
   have MR:tv=.aU 0 14 (uH ts):=sH.aU (i:=i) (by rw[dE];exact hi);have pG:=ht _ (Ac hi);have Xs:=hf _ (Ac hi);have hrt:=oh pG Xs;rw[SA hi] at MQ;have nM:(ts.take (i+1)).map (·.name)=(ts.take i).map (·.name)++[ts[i].name]:=(by rw[Al,Ab hi,Cf];rfl);have hg:=oQ hi;rw[nM];have JY:=Th.len pG;have k1:ts[i].cs.getD 1 aD=.str ts[i].name:=rfl;have gG:∀(j:Nat) (hj:j<i),ts[j].name=ts[i].name->ts[i].name∈(ts.take i).map (·.name):=fun j hj h=>Bf.2 ⟨ts[j],Hj.2 ⟨j,by omega,rfl⟩,h⟩
   have qK:(∀(j:Nat) (hj:j<i),ts[j].name≠ts[i].name)->ts[i].name∉(ts.take i).map (·.name):=fun h hm=>by obtain⟨x,hx,he⟩:=Bf.1 hm;obtain⟨j,hj,rfl⟩:=Hj.1 hx;exact h j (by omega) he
   generalize hti:ts[i]=t at *;generalize (ts.take i).map (·.name)=seen at *
   have EX:∀{x:Int},QU t=x->x≠0->tN g r0 r1 ts rs ps=x:=fun h h0=>by rw[h,if_pos h0] at MQ;rw[HY,MQ,if_pos h0]
   refine aF ?_;refine bQ ?_;simp only[↓zP,zJ,seval,e1,u1,g0,MR,aB,dE,hi,hg,oL JY];refine bW (hrt _) ?_;simp only[↓zP,zG,seval];refine fM ?_;by_cases VF:QU t=0;rotate_left
   · have d3:(QU t != 0)=true:=(by rw[Dc];exact VF);simp only[↓zP,zG,seval,d3];refine Rx ?_;rw[EX rfl VF];rfl
   have d3:(QU t != 0)=false:=(by rw[VF];rfl);rw[if_neg (fun h=>h VF)] at MQ;simp only[↓zP,zG,seval,d3];refine bR ?_;simp only[↓zP,zG,seval];refine bN [] (fun j vs H'=>H'=H1/\∀(k:Nat) (hk:k<j) (hl:k<ts.length),ts[k].name≠t.name) 0 i (Az _) (by omega) (by decide) ?_ ?_ ?_ ?_ ?_
   · simp only[zB,seval]
   · exact⟨rfl,fun k hk=>absurd hk (As _)⟩
   · rintro j f2 H2 Nq hj dP e2 ⟨rfl,_⟩;have v4:f2 4=.int .i64 i:=(by rw[dP 4 rfl];simp only[zB,seval];exact e1);simp only[↓zP,zG,seval,e2,v4];exact tB (by omega)
   · rintro j f2 H2 Nq hj dP e2 ⟨rfl,bM⟩;have v1:f2 1=.ref 0 0:=(by rw[dP 1 rfl];simp only[zB,seval];exact u1);have v4:f2 4=.int .i64 i:=(by rw[dP 4 rfl];simp only[zB,seval];exact e1);have Mk:j<ts.length:=(by omega);have xj:=oQ Mk;have k1j:ts[j].cs.drop 1=.str ts[j].name::(ts[j].cs.drop 2):=rfl;have k1i:t.cs.drop 1=.str t.name::(t.cs.drop 2):=rfl;have bDg:=gG j hj
     have iE:ts[j].name≠t.name->∀(k:Nat) (hk:k<j+1) (hl:k<ts.length),ts[k].name≠t.name:=fun h k hk hl=>by
      by_cases e:k=j
      · subst e;exact h
      exact bM k (by omega) hl
     generalize ts[j]=u at *;refine aF ?_;refine bQ ?_;refine Dz ?_;simp only[↓zP,zJ,seval,zD,e2,v1,v4,g0,MR,aB,dE,hi,Mk,hg,xj,k1j,k1i,show tt .eql u.name t.name=some (.bool (u.name==t.name)) from rfl];refine bR ?_;by_cases IG:u.name=t.name
     · have d4:(u.name==t.name)=true:=(by rw[Da];exact IG);simp only[↓zP,zG,seval,d4];refine Rx ?_;rw[if_pos (bDg IG)] at MQ;rw[HY,MQ];rfl
     have d4:(u.name==t.name)=false:=(by rw[Ce];exact IG);simp only[↓zP,zG,seval,d4];exact⟨trivial,iE IG⟩
   rintro f2 H2 dP ⟨rfl,bM⟩;rw[if_neg (qK fun j hj=>bM j hj (by omega))] at MQ;simp only[↓zP,seval];exact⟨trivial,MQ⟩
 rintro f' H1 hk ⟨rfl,MQ⟩;rw[Gk] at MQ;have aRl:FX [] ts=0:=MQ;rw[if_neg (fun h=>h aRl)] at HY;have f'1:f' 1=.ref 0 0:=by rw[hk 1 rfl];simp only[zB,seval];exact f1
 have f'3:f' 3=.int .i64 ts.length:=by rw[hk 3 rfl];simp only[zB,seval];exact f3
 simp only[↓zP,seval];apply hK;clear hK K;clear hk MQ;have Xx:(0:Int)<=ts.length:=by omega
 generalize (ts.length:Int)=n at *;refine aG fun K hK=>?_;simp only[↓zP,zG,seval];refine bN [] (fun i vs H'=>H'.get 0=some (.cells [.int .i64 g,.int .i64 r0,.int .i64 r1,tv,rv,pv] false)/\1<=H'.next/\∀r∈rs.take i,KS n r=false) 0 rs.length (Az _) (by omega) (by decide) ?_ ?_ ?_ ?_ ?_
 · simp only[zB,seval]
 · exact⟨g0,gn,fun p hp=>by simp at hp⟩
 · rintro i f2 H2 h0 hi hk e1 ⟨m0,_⟩;have u1:f2 1=.ref 0 0:=by rw[hk 1 rfl];simp only[zB,seval];exact f'1
   simp only[↓zP,zJ,seval,e1,u1,m0,lr];exact tB (by omega)
 · rintro i f2 H2 h0 hi hk e1 ⟨m0,mn,bM⟩;have u1:f2 1=.ref 0 0:=by rw[hk 1 rfl];simp only[zB,seval];exact f'1
   have u3:f2 3=.int .i64 n:=(by rw[hk 3 rfl];simp only[zB,seval];exact f'3);have VM:rv=.aU 0 8 (cC rs):=uY.aU (i:=i) (by rw[bG];exact hi);have hg:=dY hi;have h8:=hr _ (Ac hi)
   have iE:KS n rs[i]=false->∀p∈rs.take (i+1),KS n p=false:=fun h p hp=>by
    rw[Al,An] at hp
    rcases hp with hp|hp
    · exact bM p hp
    simp[hi] at hp;subst hp;exact h
   have eM:KS n rs[i]=true->tN g r0 r1 ts rs ps=1:=fun h=>by rw[HY,if_pos (Bu.2 ⟨_,Ac hi,h⟩)]
   generalize rs[i]=r at *;have uL:(iC r).length=8:=(by rw[cN,h8]);refine aF ?_;refine bQ ?_;simp only[↓zP,zJ,seval,e1,u1,m0,VM,aB,bG,hi,hg,oL uL];refine bR ?_;generalize hX:(H2.alloc _).set H2.next _=H3;have w0:H3.get 0=some (.cells [.int .i64 g,.int .i64 r0,.int .i64 r1,tv,rv,pv] false):=(by subst hX;rw[aA.aC,if_neg (by omega),aA.aJ,if_neg (by omega)];exact m0);have vG:H3.get H2.next=some (.cells (iC r) false):=(by subst hX;rw[aA.aC,if_pos rfl]);have wn:1<=H3.next:=(by subst hX;simp only[aA.aW,aA.aZ];omega);clear hX;generalize H2.next=r11 at *;have a0:=gT (l:=r) (i:=0) (by omega);have a1:=gT (l:=r) (i:=1) (by omega);have a2:((iC r).drop 2).take 3=iC ((r.drop 2).take 3):=(by rw[kU,mM]);have a5:((iC r).drop 5).take 3=iC ((r.drop 5).take 3):=(by rw[kU,mM]);have w2:=mE (m:=kB (r.getD 0 0)) (by unfold kB;split<;>decide) (w:=(r.drop 2).take 3) (by simp;omega);have w5:=mE (m:=kB (r.getD 1 0)) (by unfold kB;split<;>decide) (w:=(r.drop 5).take 3) (by simp;omega);have c2:=Rr (n:=r.getD 0 0);have c5:=Rr (n:=r.getD 1 0);have l3a:(iC ((r.drop 2).take 3)).length=3:=(by rw[cN];simp;omega);have l3b:(iC ((r.drop 5).take 3)).length=3:=(by rw[cN];simp;omega);unfold KS at iE eM;generalize (r.drop 2).take 3=wa at *;generalize (r.drop 5).take 3=wb at *;generalize r.getD 0 0=x at *;generalize r.getD 1 0=y at *;generalize dR:decide (x<0)=b1 at *;generalize fH:decide (x>n)=b2 at *;generalize tS:decide (y<0)=b3 at *;generalize uK:decide (y>n)=b4 at *;generalize CB:(x==y)=b5 at *;generalize Nt:wR (kB x) wa=b6 at *;generalize wo:wR (kB y) wb=b7 at *;refine aG fun K2 bK=>?_;refine Dz ?_;cases b1;rotate_left
   · simp only[↓zP,zJ,seval,zD,vG,uL,a0,dR];apply bK;clear bK K2;simp only[↓zP,zG,seval];refine Rx ?_;rw[eM rfl];rfl
   cases b2;rotate_left
   · simp only[↓zP,zJ,seval,zD,u3,vG,uL,a0,dR,fH];apply bK;clear bK K2;simp only[↓zP,zG,seval];refine Rx ?_;rw[eM rfl];rfl
   cases b3;rotate_left
   · simp only[↓zP,zJ,seval,zD,u3,vG,uL,a0,a1,dR,fH,tS];apply bK;clear bK K2;simp only[↓zP,zG,seval];refine Rx ?_;rw[eM rfl];rfl
   cases b4;rotate_left
   · simp only[↓zP,zJ,seval,zD,u3,vG,uL,a0,a1,dR,fH,tS,uK];apply bK;clear bK K2;simp only[↓zP,zG,seval];refine Rx ?_;rw[eM rfl];rfl
   cases b5;rotate_left
   · simp only[↓zP,zJ,seval,zD,u3,vG,uL,a0,a1,dR,fH,tS,uK,CB];apply bK;clear bK K2;simp only[↓zP,zG,seval];refine Rx ?_;rw[eM rfl];rfl
   have c2:=c2 (by have :=Cs dR;omega);have c5:=c5 (by have :=Cs tS;omega);cases b6
   · simp only[↓zP,zJ,seval,zD,u3,vG,uL,a0,a1,dR,fH,tS,uK,CB];refine eE (c2 _) ?_;simp only[↓zP,zJ,seval,zD,vG,uL,a2];refine eE (w2 _) ?_;simp only[↓zP,zJ,seval,zD];apply bK;clear bK K2;simp only[↓zP,zG,seval];refine Rx ?_;rw[eM rfl];rfl
   cases b7
   · simp only[↓zP,zJ,seval,zD,u3,vG,uL,a0,a1,dR,fH,tS,uK,CB];refine eE (c2 _) ?_;simp only[↓zP,zJ,seval,zD,vG,uL,a2];refine eE (w2 _) ?_;simp only[↓zP,zJ,seval,zD,vG,uL,a1];refine eE (c5 _) ?_;simp only[↓zP,zJ,seval,zD,vG,uL,a5];refine eE (w5 _) ?_;simp only[↓zP,zJ,seval,zD];apply bK;clear bK K2;simp only[↓zP,zG,seval];refine Rx ?_;rw[eM rfl];rfl
   simp only[↓zP,zJ,seval,zD,u3,vG,uL,a0,a1,dR,fH,tS,uK,CB];refine eE (c2 _) ?_;simp only[↓zP,zJ,seval,zD,vG,uL,a2];refine eE (w2 _) ?_;simp only[↓zP,zJ,seval,zD,vG,uL,a1];refine eE (c5 _) ?_;simp only[↓zP,zJ,seval,zD,vG,uL,a5];refine eE (w5 _) ?_;simp only[↓zP,zJ,seval,zD];apply bK;clear bK K2;simp only[↓zP,zG,seval];exact⟨by first|exact w0|(rw[VM] at w0;exact w0),wn,iE rfl⟩
 rintro f2 H2 hk ⟨m0,mn,bM⟩;rw[Ao] at bM
 rw[if_neg (by
  rw[Bu];rintro⟨r,hr,h⟩;rw[bM r hr] at h
  cases h)] at HY
 have u1:f2 1=.ref 0 0:=by rw[hk 1 rfl];simp only[zB,seval];exact f'1
 have u3:f2 3=.int .i64 n:=by rw[hk 3 rfl];simp only[zB,seval];exact f'3
 simp only[↓zP,seval];apply hK;clear hK K;clear hk bM;refine aG fun K hK=>?_;simp only[↓zP,zG,seval];refine bN [] (fun i vs H'=>H'.get 0=some (.cells [.int .i64 g,.int .i64 r0,.int .i64 r1,tv,rv,pv] false)/\1<=H'.next/\∀r∈ps.take i,KR n r=false) 0 ps.length (Az _) (by omega) (by decide) ?_ ?_ ?_ ?_ ?_
 · simp only[zB,seval]
 · exact⟨m0,mn,fun p hp=>by simp at hp⟩
 · rintro i f2 H2 h0 hi hk e1 ⟨m0,_⟩;have u1:f2 1=.ref 0 0:=by rw[hk 1 rfl];simp only[zB,seval];exact u1
   simp only[↓zP,zJ,seval,e1,u1,m0,lp];exact tB (by omega)
 · rintro i f2 H2 h0 hi hk e1 ⟨m0,mn,bM⟩;have u1:f2 1=.ref 0 0:=by rw[hk 1 rfl];simp only[zB,seval];exact u1
   have u3:f2 3=.int .i64 n:=(by rw[hk 3 rfl];simp only[zB,seval];exact u3);have qQ:pv=.aU 0 10 (cC ps):=Ks.aU (i:=i) (by rw[bG];exact hi);have hg:=dY hi;have h8:=hp _ (Ac hi)
   have iE:KR n ps[i]=false->∀p∈ps.take (i+1),KR n p=false:=fun h p hp=>by
    rw[Al,An] at hp
    rcases hp with hp|hp
    · exact bM p hp
    simp[hi] at hp;subst hp;exact h
   have eM:KR n ps[i]=true->tN g r0 r1 ts rs ps=1:=fun h=>by rw[HY,if_pos (Bu.2 ⟨_,Ac hi,h⟩)]
   generalize ps[i]=r at *;have uL:(iC r).length=10:=(by rw[cN,h8]);refine aF ?_;refine bQ ?_;simp only[↓zP,zJ,seval,e1,u1,m0,qQ,aB,bG,hi,hg,oL uL];refine bR ?_;generalize hX:(H2.alloc _).set H2.next _=H3;have w0:H3.get 0=some (.cells [.int .i64 g,.int .i64 r0,.int .i64 r1,tv,rv,pv] false):=(by subst hX;rw[aA.aC,if_neg (by omega),aA.aJ,if_neg (by omega)];exact m0);have vG:H3.get H2.next=some (.cells (iC r) false):=(by subst hX;rw[aA.aC,if_pos rfl]);have wn:1<=H3.next:=(by subst hX;simp only[aA.aW,aA.aZ];omega);clear hX;generalize H2.next=r11 at *;have a0:=gT (l:=r) (i:=0) (by omega);have a2:((iC r).drop 1).take 3=iC ((r.drop 1).take 3):=(by rw[kU,mM]);have a4:((iC r).drop 4).take 3=iC ((r.drop 4).take 3):=(by rw[kU,mM]);have a7:((iC r).drop 7).take 3=iC ((r.drop 7).take 3):=(by rw[kU,mM]);have w2:=mE (m:=4096) (by decide) (w:=(r.drop 1).take 3) (by simp;omega);have w4:=mE (m:=1099511627776) (by decide) (w:=(r.drop 4).take 3) (by simp;omega);have w7:=mE (m:=1099511627776) (by decide) (w:=(r.drop 7).take 3) (by simp;omega);have l3a:(iC ((r.drop 1).take 3)).length=3:=(by rw[cN];simp;omega);have l3b:(iC ((r.drop 4).take 3)).length=3:=(by rw[cN];simp;omega);have l3c:(iC ((r.drop 7).take 3)).length=3:=(by rw[cN];simp;omega);unfold KR at iE eM;generalize (r.drop 1).take 3=wa at *;generalize (r.drop 4).take 3=wb at *;generalize (r.drop 7).take 3=wc at *;generalize r.getD 0 0=x at *;generalize dR:decide (x<1)=b1 at *;generalize fH:decide (x>n)=b2 at *;generalize tS:wR 4096 wa=b3 at *;generalize uK:wR 1099511627776 wb=b4 at *;generalize CB:wR 1099511627776 wc=b5 at *;refine aG fun K2 bK=>?_;cases b1;rotate_left
   · simp only[↓zP,zJ,seval,vG,uL,a0,dR];apply bK;clear bK K2;simp only[↓zP,zG,seval];refine Rx ?_;rw[eM rfl];rfl
   cases b2;rotate_left
   · simp only[↓zP,zJ,seval,u3,vG,uL,a0,dR,fH];apply bK;clear bK K2;simp only[↓zP,zG,seval];refine Rx ?_;rw[eM rfl];rfl
   simp only[↓zP,zJ,seval,u3,vG,uL,a0,a2,dR,fH];refine bW (w2 _) ?_;cases b3
   · simp only[↓zP,zJ,seval];apply bK;clear bK K2;simp only[↓zP,zG,seval];refine Rx ?_;rw[eM rfl];rfl
   simp only[↓zP,zJ,seval,nC,vG,uL,a4];refine bW (w4 _) ?_;cases b4
   · simp only[↓zP,zJ,seval];apply bK;clear bK K2;simp only[↓zP,zG,seval];refine Rx ?_;rw[eM rfl];rfl
   simp only[↓zP,zJ,seval,nC,vG,uL,a7];refine bW (w7 _) ?_;cases b5
   · simp only[↓zP,zJ,seval];apply bK;clear bK K2;simp only[↓zP,zG,seval];refine Rx ?_;rw[eM rfl];rfl
   simp only[↓zP,zJ,seval];apply bK;clear bK K2;simp only[↓zP,zG,seval];exact⟨by first|exact w0|(rw[qQ] at w0;exact w0),wn,iE rfl⟩
 rintro f2 H2 hk ⟨m0,mn,bM⟩;rw[Ao] at bM
 rw[if_neg (by
  rw[Bu];rintro⟨r,hr,h⟩;rw[bM r hr] at h
  cases h)] at HY
 simp only[↓zP,seval];apply hK;clear hK K;simp only[↓zP,zG,seval];refine Rx ?_;rw[HY];rfl
def AU (k nT nR nP:Int):Option (Int×Int):=if k=1\/k=2 then some (1,nT) else if k=3\/k=4 then some (0,nR -1) else if k=5\/k=6 then some (0,nP -1) else if k=7 then some (0,0) else if k=8 then some (1,10000) else none
def nD (ps:List (List Int)) (i:Nat):Bool:=iO (ps.getD i []) != 0||(decide (0<i)&&decide (ps.getD i []=ps.getD (i -1) []))
def Vg (k:Int):Bool:=k==1||k==2
def Va (k:Int) (m:Nat):Bool:=if Vg k then decide ((m:Int)<2)||decide ((m:Int)>32) else decide ((m:Int)>0)
def Pr (nT nR nP k n:Int) (ps:List (List Int)):Int:=match AU k nT nR nP with
 |none=>1
 |some (lo,hi)=>if decide (n<lo)||decide (n>hi) then 1 else if(List.range ps.length).any (nD ps) then 1 else if Va k ps.length then 2 else 0
def oC (k n:Int) (pv:AV):List AV:=[.int .i64 k,.int .i64 n,pv]
theorem Qe {ps:List (List Int)} (h:∀i,i<ps.length->nD ps i=false):(List.range ps.length).any (nD ps)=false:=by rw[Ek];intro i hi;rw[h i (Ba.1 hi)];decide
theorem NO {ps:List (List Int)} {i:Nat} (hi:i<ps.length) (h:nD ps i=true):(List.range ps.length).any (nD ps)=true:=Bu.2 ⟨i,Ba.2 hi,h⟩
theorem aDv {g r0 r1:Int} {ts:List Th} {rs us ps:List (List Int)} {tv rv uv pv:AV} {k n:Int} (sH:lO tv 14 (uH ts)) (uY:lO rv 8 (cC rs)) (zF:lO uv 10 (cC us)) (Ks:lO pv 7 (cC ps)) (ht:∀t∈ts,t.OK)
 (hp:∀p∈ps,p.length=7/\yY p) (VM:rs.length<2^62) (hul:us.length<2^62) (qQ:ps.length<2^62) (H:aA):
 Sg 15 [.agg (yC g r0 r1 tv rv uv),.agg (oC k n pv)] H (.ret (.int .i64 (Pr ts.length rs.length us.length k n ps))) H:=by
 refine So aWg (by simp only[yC,oC,sf,sH.free (kE ht),uY.free (bU _),zF.free (bU _),Ks.free (bU _)]) ?_ H;unfold W15;dsimp only;have lt:=sH.len;have lr:=uY.len;have lu:=zF.len;have lp:=Ks.len;simp only[cX] at lt lr lu lp;rw[dE] at lt;rw[bG] at lr lu lp;have hwr:IntKind.i64.wrap ((rs.length:Int) -1)=rs.length -1:=wrap_i64 (by omega) (by omega);have hwu:IntKind.i64.wrap ((us.length:Int) -1)=us.length -1:=wrap_i64 (by omega) (by omega);generalize hnT:(ts.length:Int)=nT at *;generalize hnR:(rs.length:Int)=nR at *;generalize hnU:(us.length:Int)=nU at *;refine bQ ?_;simp only[↓zP,zJ,seval,yC,oC];refine bR ?_;generalize hX:((aA.mk 0 .nil).alloc _).alloc _=HA;have g0:HA.get 0=some (.cells [.int .i64 g,.int .i64 r0,.int .i64 r1,tv,rv,uv] false):=by subst hX;simp only[zI,seval]
 have g1:HA.get 1=some (.cells [.int .i64 k,.int .i64 n,pv] false):=by subst hX;simp only[zI,seval]
 have gn:2<=HA.next:=by subst hX;simp only[zI,seval]
 clear hX;refine dT fun f jL=>?_;have f2:f 2=.ref 0 0:=by subst jL;simp only[zB,seval]
 have f3:f 3=.ref 1 0:=by subst jL;simp only[zB,seval]
 clear jL;refine bQ ?_;simp only[↓zP,zG,seval];refine bR ?_;refine aG fun K hK=>?_
 have key:∀(f:dD) (lo hi:Int),f 2=.ref 0 0->f 3=.ref 1 0->f 5=.int .i64 lo->f 6=.int .i64 hi->AU k nT nR nU=some (lo,hi)->K f [] HA:=by
  intro f lo hi f2 f3 f5 f6 hlh;apply hK;clear hK K
  have hC:Pr nT nR nU k n ps=if decide (n<lo)||decide (n>hi) then 1 else if(List.range ps.length).any (nD ps) then 1 else if Va k ps.length then 2 else 0:=by unfold Pr;rw[hlh]
  rw[hC];clear hC hlh;refine aG fun K hK=>?_;generalize dR:decide (n<lo)=b1 at *;generalize fH:decide (n>hi)=b2 at *;cases b1;rotate_left
  · simp only[↓zP,zJ,seval,f3,g1,f5,dR];refine Rx ?_;rfl
  cases b2;rotate_left
  · simp only[↓zP,zJ,seval,f3,g1,f5,f6,dR,fH];refine Rx ?_;rfl
  simp only[↓zP,zJ,seval,f3,g1,f5,f6,dR,fH];apply hK;clear hK K dR fH f5 f6;rw[show(false||false)=false from rfl,if_neg (by decide)];refine aG fun K hK=>?_;refine bQ ?_;simp only[↓zP,zJ,seval,f3,g1,lp];refine bR ?_;refine bO [] (fun i vs H'=>H'.get 1=some (.cells [.int .i64 k,.int .i64 n,pv] false)/\2<=H'.next/\∀j,j<i->nD ps j=false) ps.length (by omega) (by decide) ?_ ?_ ?_ ?_ ?_
  · simp only[zB,seval]
  · simp only[zB,seval]
  · exact⟨g1,gn,fun j hj=>absurd hj (As _)⟩
  · rintro i f4 H1 hi hk e1 ⟨m1,mn,bM⟩;have u3:f4 3=.ref 1 0:=by rw[hk 3 rfl];simp only[zB,seval];exact f3
    have qQ:pv=.aU 0 7 (cC ps):=Ks.aU (i:=i) (by rw[bG];exact hi);have u47:f4 47=.aU 0 7 (cC ps):=(by rw[hk 47 rfl];simp only[zB,seval];exact qQ);have hg:=dY hi;have hg':0<i->(cC ps).getD (i -1) []=iC ps[i -1]:=fun _=>dY (by omega);obtain⟨h7,Nr⟩:=hp _ (Ac hi);have ki:=Ox h7 Nr
    have iE:nD ps i=false->∀j,j<i+1->nD ps j=false:=fun h j hj=>by
     by_cases e:j=i
     · subst e;exact h
     exact bM j (by omega)
    have eM:nD ps i=true->(if(List.range ps.length).any (nD ps)=true then(1:Int) else if Va k ps.length=true then 2 else 0)=1:=fun h=>if_pos (NO hi h);have Sr:nD ps i=(iO ps[i] != 0||(decide (0<i)&&decide (ps[i]=ps.getD (i -1) []))):=(by unfold nD;rw[show ps.getD i []=ps[i] from by simp[hi]]);have IE:0<i->ps.getD (i -1) []=ps[i -1]:=fun h0=>by simp[show i -1<ps.length from by omega]
    have h7':0<i->ps[i -1].length=7:=fun _=>(hp _ (Ac (by omega))).1;have Pe:(iC ps[i]).length=7:=(by rw[cN,h7]);rw[Sr] at iE eM;refine aF ?_;refine bQ ?_;simp only[↓zP,zJ,seval,e1,u47,aB,bG,hi,hg,oL Pe];refine bR ?_;generalize hX:(H1.alloc _).set H1.next _=H3;have w1:H3.get 1=some (.cells [.int .i64 k,.int .i64 n,pv] false):=(by subst hX;rw[aA.aC,if_neg (by omega),aA.aJ,if_neg (by omega)];exact m1);have w8:H3.get H1.next=some (.cells (iC ps[i]) false):=(by subst hX;rw[aA.aC,if_pos rfl]);have wn:2<=H3.next:=(by subst hX;simp only[aA.aW,aA.aZ];omega);clear hX;generalize H1.next=r8 at *;refine aG fun K2 bK=>?_;refine Dz ?_;simp only[↓zP,zJ,seval,zD,w8,oL Pe];refine eE (ki _) ?_
    cases dR:(iO ps[i] != 0) with
    |true=>rw[dR] at eM;simp only[↓zP,zJ,seval,zD,dR,gU];apply bK;clear bK K2;simp only[↓zP,zG,seval];refine Rx ?_;rw[eM rfl];rfl
    |false=>
     rw[dR] at eM iE;by_cases h0:0<i
     · have d0:=Af (show(i:Int)>0 by omega);have hwi:IntKind.i64.wrap ((i:Int) -1)=((i -1:Nat):Int):=wI (by omega);have zA:i -1<ps.length:=(by omega);have VG:cJ [.i,.i,.i,.i,.i,.i,.i] (iC ps[i]) (iC ps[i -1])=some (decide (ps[i]=ps[i -1])):=uW (n:=7) h7 (h7' h0);have aQy:(iC ps[i -1]).length=7:=(by rw[cN,h7' h0]);rw[Af h0,IE h0] at eM iE;simp only[↓zP,zJ,seval,zD,dR,d0,u3,w1,w8,qQ,hwi,aB,bG,zA,hg' h0,oL Pe,oL aQy,VG];apply bK;clear bK K2
       cases fH:decide (ps[i]=ps[i -1]) with
       |true=>rw[fH] at eM;simp only[↓zP,zG,seval];refine Rx ?_;rw[eM rfl];rfl
       |false=>rw[fH] at iE;simp only[↓zP,zG,seval];exact⟨w1,wn,iE rfl⟩
     have d0:=Ae (show ¬(i:Int)>0 by omega);rw[Ae h0] at iE;simp only[↓zP,zJ,seval,zD,dR,d0];apply bK;clear bK K2;simp only[↓zP,zG,seval];exact⟨w1,wn,iE rfl⟩
  rintro f4 H1 hk ⟨m1,mn,bM⟩;have u3:f4 3=.ref 1 0:=by rw[hk 3 rfl];simp only[zB,seval];exact f3
  have hA:(if(List.range ps.length).any (nD ps)=true then(1:Int) else if Va k ps.length=true then 2 else 0)=if Va k ps.length=true then 2 else 0:=by rw[Qe bM,if_neg (by decide)]
  simp only[↓zP,seval];apply hK;clear hK K;clear hk bM
  have hB:Va k ps.length=if Vg k then decide ((ps.length:Int)<2)||decide ((ps.length:Int)>32) else decide ((ps.length:Int)>0):=rfl
  have ah:Vg k=(k==1||k==2):=rfl;refine aG fun K hK=>?_
  have bBg:∀f:dD,f 3=.ref 1 0->f 9=.bool (Vg k)->K f [] H1:=by
   intro f f3 f9;apply hK;clear hK K ah;generalize Vg k=mv at *;generalize Sv:decide ((ps.length:Int)<2)=c1 at *;generalize uP:decide ((ps.length:Int)>32)=c2 at *;generalize xc:decide ((ps.length:Int)>0)=c3 at *;cases mv
   · cases c3
     · simp only[↓zP,zJ,seval,f3,f9,m1,lp,xc,gU];refine Rx ?_;rw[hA,hB];rfl
     simp only[↓zP,zJ,seval,f3,f9,m1,lp,xc,gU];refine Rx ?_;rw[hA,hB];rfl
   cases c1<;>cases c2<;>
   · simp only[↓zP,zJ,seval,f3,f9,m1,lp,Sv,uP,gU];refine Rx ?_;rw[hA,hB];rfl
  rw[ah] at bBg;generalize KB:(k==1)=q1 at *;generalize Mm:(k==2)=q2 at *;cases q1<;>cases q2<;>
  · simp only[↓zP,zJ,seval,u3,m1,KB,Mm];exact bBg _ (by simp only[zB,seval];exact u3) rfl
 have hK8:∀j:Int,(k==j)=true->k=j:=fun j h=>Da.1 h;have hN8:∀j:Int,(k==j)=false->k≠j:=fun j h=>Ce.1 h;generalize KB:(k==1)=q1 at *;generalize Mm:(k==2)=q2 at *;generalize xz:(k==3)=q3 at *;generalize hq4:(k==4)=q4 at *;generalize hq5:(k==5)=q5 at *;generalize hq6:(k==6)=q6 at *;generalize hq7:(k==7)=q7 at *;generalize hq8:(k==8)=q8 at *;simp only[↓zP,zJ,seval,f3,g1];refine aF ?_;cases q1;rotate_left
 · simp only[↓zP,zG,seval,KB];refine Dz ?_;simp only[↓zP,zJ,seval,zD,f2,g0,lt];exact key _ 1 nT (by simp only[zB,seval];exact f2) (by simp only[zB,seval];exact f3) (by simp only[zB,seval]) (by simp only[zB,seval]) (by rw[hK8 1 KB];rfl)
 cases q2;rotate_left
 · simp only[↓zP,zG,seval,KB,Mm];refine Dz ?_;simp only[↓zP,zJ,seval,zD,f2,g0,lt];exact key _ 1 nT (by simp only[zB,seval];exact f2) (by simp only[zB,seval];exact f3) (by simp only[zB,seval]) (by simp only[zB,seval]) (by rw[hK8 2 Mm];rfl)
 cases q3;rotate_left
 · simp only[↓zP,zJ,seval,f2,g0,lr,hwr,KB,Mm,xz];exact key _ 0 (nR -1) (by simp only[zB,seval];exact f2) (by simp only[zB,seval];exact f3) (by simp only[zB,seval]) (by simp only[zB,seval]) (by rw[hK8 3 xz];rfl)
 cases q4;rotate_left
 · simp only[↓zP,zJ,seval,f2,g0,lr,hwr,KB,Mm,xz,hq4];exact key _ 0 (nR -1) (by simp only[zB,seval];exact f2) (by simp only[zB,seval];exact f3) (by simp only[zB,seval]) (by simp only[zB,seval]) (by rw[hK8 4 hq4];rfl)
 cases q5;rotate_left
 · simp only[↓zP,zJ,seval,f2,g0,lu,hwu,KB,Mm,xz,hq4,hq5];exact key _ 0 (nU -1) (by simp only[zB,seval];exact f2) (by simp only[zB,seval];exact f3) (by simp only[zB,seval]) (by simp only[zB,seval]) (by rw[hK8 5 hq5];rfl)
 cases q6;rotate_left
 · simp only[↓zP,zJ,seval,f2,g0,lu,hwu,KB,Mm,xz,hq4,hq5,hq6];exact key _ 0 (nU -1) (by simp only[zB,seval];exact f2) (by simp only[zB,seval];exact f3) (by simp only[zB,seval]) (by simp only[zB,seval]) (by rw[hK8 6 hq6];rfl)
 cases q7;rotate_left
 · simp only[↓zP,zG,seval,KB,Mm,xz,hq4,hq5,hq6,hq7];exact key _ 0 0 (by simp only[zB,seval];exact f2) (by simp only[zB,seval];exact f3) (by simp only[zB,seval]) (by simp only[zB,seval]) (by rw[hK8 7 hq7];rfl)
 cases q8;rotate_left
 · simp only[↓zP,zG,seval,KB,Mm,xz,hq4,hq5,hq6,hq7,hq8];exact key _ 1 10000 (by simp only[zB,seval];exact f2) (by simp only[zB,seval];exact f3) (by simp only[zB,seval]) (by simp only[zB,seval]) (by rw[hK8 8 hq8];rfl)
 simp only[↓zP,zG,seval,KB,Mm,xz,hq4,hq5,hq6,hq7,hq8];refine Rx ?_
 have :AU k nT nR nU=none:=by have h1:=hN8 1 KB;have h2:=hN8 2 Mm;have h3:=hN8 3 xz;have h4:=hN8 4 hq4;have h5:=hN8 5 hq5;have h6:=hN8 6 hq6;have h7:=hN8 7 hq7;have h8:=hN8 8 hq8;unfold AU;rw[if_neg (by omega),if_neg (by omega),if_neg (by omega),if_neg h7,if_neg h8]
 unfold Pr;rw[this];rfl
theorem Rm (k n:Int) {pv:AV} (hpf:pv.free=true) (H:aA):Sg 36 [.agg (oC k n pv)] H (.ret (.bool (Vg k))) H:=by
 refine So bFf (by simp only[oC,sf,hpf]) ?_ H;unfold W36;dsimp only;have ah:Vg k=(k==1||k==2):=rfl;rw[ah];generalize KB:(k==1)=q1 at *;generalize Mm:(k==2)=q2 at *;cases q1
 · simp only[↓zP,zJ,seval,oC,KB,Mm];refine Rx ?_;rfl
 simp only[↓zP,zJ,seval,oC,KB];refine Rx ?_;rfl
def xA (nT nR nP k n:Int):Bool:=match AU k nT nR nP with
 |some (lo,hi)=>decide (lo<=n/\n<=hi)
 |none=>false
theorem aAy {g r0 r1:Int} {ts:List Th} {rs us:List (List Int)} {tv rv uv pv:AV} {k n:Int} (sH:lO tv 14 (uH ts)) (uY:lO rv 8 (cC rs)) (zF:lO uv 10 (cC us)) (hpf:pv.free=true) (ht:∀t∈ts,t.OK)
 (hk:1<=k/\k<=8) (H:aA):
 Sg 35 [.agg (yC g r0 r1 tv rv uv),.agg (oC k n pv)] H (.ret (.bool (xA ts.length rs.length us.length k n))) H:=by
 refine So bFe (by simp only[yC,oC,sf,sH.free (kE ht),uY.free (bU _),zF.free (bU _),hpf]) ?_ H;unfold W35;dsimp only;have lt:=sH.len;have lr:=uY.len;have lu:=zF.len;simp only[cX] at lt lr lu;rw[dE] at lt;rw[bG] at lr lu;have GB:=Rm k n hpf;unfold oC at GB;generalize hnT:(ts.length:Int)=nT at *;generalize hnR:(rs.length:Int)=nR at *;generalize hnU:(us.length:Int)=nU at *;refine bQ ?_;simp only[↓zP,zJ,seval,yC,oC];refine bR ?_;generalize hX:((aA.mk 0 .nil).alloc _).alloc _=HA;have g0:HA.get 0=some (.cells [.int .i64 g,.int .i64 r0,.int .i64 r1,tv,rv,uv] false):=by subst hX;simp only[zI,seval]
 have g1:HA.get 1=some (.cells [.int .i64 k,.int .i64 n,pv] false):=by subst hX;simp only[zI,seval]
 clear hX;refine dT fun f jL=>?_;have f2:f 2=.ref 0 0:=by subst jL;simp only[zB,seval]
 have f3:f 3=.ref 1 0:=by subst jL;simp only[zB,seval]
 clear jL;have hk8:k=1\/k=2\/k=3\/k=4\/k=5\/k=6\/k=7\/k=8:=by omega
 have l3:∀a b c:AV,3<=[a,b,c].length:=fun _ _ _=>by simp
 rcases hk8 with rfl|rfl|rfl|rfl|rfl|rfl|rfl|rfl
 · have hN:xA nT nR nU 1 n=(decide (n≥1)&&decide (n<=nT)):=by rw[Cg];simp[xA,AU]
   rw[show Vg 1=true from rfl] at GB;refine aG fun K hK=>?_;simp only[↓zP,zJ,seval,f3,g1];refine bW (GB _) ?_;generalize dR:decide (n≥1)=b1 at *;generalize fH:decide (n<=nT)=b2 at *;cases b1<;>
   · simp only[↓zP,zJ,seval,f2,f3,g0,g1,lt,dR,fH];refine Rx ?_;rw[hN];rfl
 · have hN:xA nT nR nU 2 n=(decide (n≥1)&&decide (n<=nT)):=by rw[Cg];simp[xA,AU]
   rw[show Vg 2=true from rfl] at GB;refine aG fun K hK=>?_;simp only[↓zP,zJ,seval,f3,g1];refine bW (GB _) ?_;generalize dR:decide (n≥1)=b1 at *;generalize fH:decide (n<=nT)=b2 at *;cases b1<;>
   · simp only[↓zP,zJ,seval,f2,f3,g0,g1,lt,dR,fH];refine Rx ?_;rw[hN];rfl
 · have hN:xA nT nR nU 3 n=(decide (n≥0)&&decide (n<nR)):=by rw[Cg];simp[xA,AU];omega
   rw[show Vg 3=false from rfl] at GB;refine bQ ?_;simp only[↓zP,zJ,seval,f3,g1];refine bW (GB _) ?_;simp only[↓zP,zG,seval];refine bR ?_;refine aG fun K hK=>?_;generalize dR:decide (n≥0)=b1 at *;generalize fH:decide (n<nR)=b2 at *;cases b1<;>
   · simp only[↓zP,zJ,seval,f2,f3,g0,g1,lr,dR,fH];refine Rx ?_;rw[hN];rfl
 · have hN:xA nT nR nU 4 n=(decide (n≥0)&&decide (n<nR)):=by rw[Cg];simp[xA,AU];omega
   rw[show Vg 4=false from rfl] at GB;refine bQ ?_;simp only[↓zP,zJ,seval,f3,g1];refine bW (GB _) ?_;simp only[↓zP,zG,seval];refine bR ?_;refine aG fun K hK=>?_;generalize dR:decide (n≥0)=b1 at *;generalize fH:decide (n<nR)=b2 at *;cases b1<;>
   · simp only[↓zP,zJ,seval,f2,f3,g0,g1,lr,dR,fH];refine Rx ?_;rw[hN];rfl
 · have hN:xA nT nR nU 5 n=(decide (n≥0)&&decide (n<nU)):=by rw[Cg];simp[xA,AU];omega
   rw[show Vg 5=false from rfl] at GB;refine bQ ?_;simp only[↓zP,zJ,seval,f3,g1];refine bW (GB _) ?_;simp only[↓zP,zG,seval];refine fM ?_;simp only[↓zP,zJ,seval,f3,g1];refine bR ?_;refine aG fun K hK=>?_;generalize dR:decide (n≥0)=b1 at *;generalize fH:decide (n<nU)=b2 at *;cases b1<;>
   · simp only[↓zP,zJ,seval,f2,f3,g0,g1,lu,dR,fH];refine Rx ?_;rw[hN];rfl
 · have hN:xA nT nR nU 6 n=(decide (n≥0)&&decide (n<nU)):=by rw[Cg];simp[xA,AU];omega
   rw[show Vg 6=false from rfl] at GB;refine bQ ?_;simp only[↓zP,zJ,seval,f3,g1];refine bW (GB _) ?_;simp only[↓zP,zG,seval];refine fM ?_;simp only[↓zP,zJ,seval,f3,g1];refine bR ?_;refine aG fun K hK=>?_;generalize dR:decide (n≥0)=b1 at *;generalize fH:decide (n<nU)=b2 at *;cases b1<;>
   · simp only[↓zP,zJ,seval,f2,f3,g0,g1,lu,dR,fH];refine Rx ?_;rw[hN];rfl
 · have hN:xA nT nR nU 7 n=(n==0):=by rw[Cg];simp[xA,AU];omega
   rw[show Vg 7=false from rfl] at GB;refine bQ ?_;simp only[↓zP,zJ,seval,f3,g1];refine bW (GB _) ?_;simp only[↓zP,zG,seval];refine fM ?_;simp only[↓zP,zJ,seval,f3,g1];refine fM ?_;simp only[↓zP,zJ,seval,f3,g1];refine bR ?_;refine aG fun K hK=>?_;simp only[↓zP,zJ,seval,f3,g1];refine Rx ?_;rw[hN];rfl
 have hN:xA nT nR nU 8 n=(decide (n≥1)&&decide (n<=10000)):=by rw[Cg];simp[xA,AU]
 rw[show Vg 8=false from rfl] at GB;refine bQ ?_;simp only[↓zP,zJ,seval,f3,g1];refine bW (GB _) ?_;simp only[↓zP,zG,seval];refine fM ?_;simp only[↓zP,zJ,seval,f3,g1];refine fM ?_;simp only[↓zP,zJ,seval,f3,g1];refine fM ?_;simp only[↓zP,zJ,seval,f3,g1];refine bR ?_;generalize dR:decide (n≥1)=b1 at *;generalize fH:decide (n<=10000)=b2 at *;cases b1<;>
 · simp only[↓zP,zJ,seval,f3,g1,dR,fH];refine Rx ?_;rw[hN];rfl
theorem aAo {g r0 r1:Int} {ts:List Th} {rs us ps:List (List Int)} {tv rv uv pv:AV} {k n:Int} (sH:lO tv 14 (uH ts)) (uY:lO rv 8 (cC rs)) (zF:lO uv 10 (cC us)) (Ks:lO pv 7 (cC ps)) (ht:∀t∈ts,t.OK)
 (hp:∀p∈ps,p.length=7) (qQ:ps.length<2^62) (H:aA):
 Sg 16 [.agg (yC g r0 r1 tv rv uv),.agg (oC k n pv)] H (.ret (.int .i64 (Pr ts.length rs.length us.length k n ps))) H:=by
 have hpf:=Ks.free (bU _);refine So bEu (by simp only[yC,oC,sf,sH.free (kE ht),uY.free (bU _),zF.free (bU _),hpf]) ?_ H;unfold W16;dsimp only;have eM:=fun h=>aAy (g:=g) (r0:=r0) (r1:=r1) (k:=k) (n:=n) sH uY zF hpf ht h;have GB:=Rm k n hpf;have lp:=Ks.len;simp only[cX] at lp;rw[bG] at lp
 have qK:¬(1<=k/\k<=8)->Pr ts.length rs.length us.length k n ps=1:=fun h=>by
  have :AU k ts.length rs.length us.length=none:=by unfold AU;rw[if_neg (by omega),if_neg (by omega),if_neg (by omega),if_neg (by omega),if_neg (by omega)]
  unfold Pr;rw[this]
 have gG:(1<=k/\k<=8)->Pr ts.length rs.length us.length k n ps=if xA ts.length rs.length us.length k n=false then 1 else if(List.range ps.length).any (nD ps) then 1 else if Va k ps.length then 2 else 0:=fun h=>by
  unfold Pr xA
  cases hl:AU k ts.length rs.length us.length with
  |none=>
   unfold AU at hl;exfalso
   repeat' split at hl
   all_goals first|omega|cases hl
  |some p=>
   obtain⟨lo,hi⟩:=p;simp only[Dp,Bg,Bk];by_cases hh:n<lo\/n>hi
   · rw[if_pos hh,if_pos (by omega)]
   simp only[if_neg hh,if_neg (show ¬¬(lo<=n/\n<=hi) from fun h=>h (by omega))]
 unfold yC oC at eM;unfold oC at GB;generalize xA ts.length rs.length us.length k n=nb at *;generalize hR:Pr ts.length rs.length us.length k n ps=R at *;refine bQ ?_;simp only[↓zP,zJ,seval,yC,oC];refine bR ?_;generalize hX:((aA.mk 0 .nil).alloc _).alloc _=HA;have g0:HA.get 0=some (.cells [.int .i64 g,.int .i64 r0,.int .i64 r1,tv,rv,uv] false):=by subst hX;simp only[zI,seval]
 have g1:HA.get 1=some (.cells [.int .i64 k,.int .i64 n,pv] false):=by subst hX;simp only[zI,seval]
 clear hX;refine dT fun f jL=>?_;have f2:f 2=.ref 0 0:=by subst jL;simp only[zB,seval]
 have f3:f 3=.ref 1 0:=by subst jL;simp only[zB,seval]
 clear jL;refine aG fun K hK=>?_;generalize dR:decide (k<1)=b1 at *;generalize fH:decide (k>8)=b2 at *;cases b1;rotate_left
 · simp only[↓zP,zJ,seval,f3,g1,dR];refine Rx ?_;have :=Cc dR;rw[qK (by omega)];rfl
 cases b2;rotate_left
 · simp only[↓zP,zJ,seval,f3,g1,dR,fH];refine Rx ?_;have :=Cc fH;rw[qK (by omega)];rfl
 have hk8:1<=k/\k<=8:=by have :=Cs dR;have :=Cs fH;omega
 have gG:=gG hk8;have eM:=eM hk8;clear qK;have l6:∀a b c d e f:AV,6<=[a,b,c,d,e,f].length:=fun _ _ _ _ _ _=>by simp
 have l3:∀a b c:AV,3<=[a,b,c].length:=fun _ _ _=>by simp
 simp only[↓zP,zJ,seval,f2,f3,g0,g1,dR,fH];refine bW (eM _) ?_;cases nb
 · simp only[↓zP,zJ,seval];refine Rx ?_;rw[gG];rfl
 rw[if_neg (by decide)] at gG;simp only[↓zP,zJ,seval];apply hK;clear hK K dR fH;refine aG fun K hK=>?_;simp only[↓zP,zG,seval];refine bN [] (fun i vs H'=>H'=HA/\∀j,j<i->nD ps j=false) 0 ps.length (Az _) (by omega) (by decide) ?_ ?_ ?_ ?_ ?_
 · simp only[zB,seval]
 · exact⟨rfl,fun j hj=>absurd hj (As _)⟩
 · rintro i f4 H1 h0 hi hk e1 ⟨rfl,_⟩;have u3:f4 3=.ref 1 0:=by rw[hk 3 rfl];simp only[zB,seval];exact f3
   simp only[↓zP,zJ,seval,e1,u3,g1,lp];exact tB (by omega)
 · rintro i f4 H1 h0 hi hk e1 ⟨rfl,bM⟩;have u3:f4 3=.ref 1 0:=by rw[hk 3 rfl];simp only[zB,seval];exact f3
   have aUo:pv=.aU 0 7 (cC ps):=Ks.aU (i:=i) (by rw[bG];exact hi);have hg:=dY hi;have hg':0<i->(cC ps).getD (i -1) []=iC ps[i -1]:=fun _=>dY (by omega);have h7:=hp _ (Ac hi);have ki:=LM h7
   have iE:nD ps i=false->∀j,j<i+1->nD ps j=false:=fun h j hj=>by
    by_cases e:j=i
    · subst e;exact h
    exact bM j (by omega)
   have eM:nD ps i=true->R=1:=fun h=>by rw[gG,if_pos (NO hi h)]
   have Sr:nD ps i=(iO ps[i] != 0||(decide (0<i)&&decide (ps[i]=ps.getD (i -1) []))):=(by unfold nD;rw[show ps.getD i []=ps[i] from by simp[hi]]);have IE:0<i->ps.getD (i -1) []=ps[i -1]:=fun h0=>by simp[show i -1<ps.length from by omega]
   have h7':0<i->ps[i -1].length=7:=fun _=>hp _ (Ac (by omega));have Pe:(iC ps[i]).length=7:=(by rw[cN,h7]);rw[Sr] at iE eM;refine aF ?_;refine aG fun K2 bK=>?_;refine Dz ?_;simp only[↓zP,zJ,seval,zD,e1,u3,g1,aUo,aB,bG,hi,hg,oL Pe];refine eE (ki _) ?_
   cases dR:(iO ps[i] != 0) with
   |true=>rw[dR] at eM;simp only[↓zP,zJ,seval,zD,dR,gU];apply bK;clear bK K2;simp only[↓zP,zG,seval];refine Rx ?_;rw[eM rfl];rfl
   |false=>
    rw[dR] at eM iE;by_cases h0:0<i
    · have d0:=Af (show(i:Int)>0 by omega);have hwi:IntKind.i64.wrap ((i:Int) -1)=((i -1:Nat):Int):=wI (by omega);have zA:i -1<ps.length:=(by omega);have VG:cJ [.i,.i,.i,.i,.i,.i,.i] (iC ps[i]) (iC ps[i -1])=some (decide (ps[i]=ps[i -1])):=uW (n:=7) h7 (h7' h0);have aQy:(iC ps[i -1]).length=7:=(by rw[cN,h7' h0]);rw[Af h0,IE h0] at eM iE;simp only[↓zP,zJ,seval,zD,dR,d0,e1,u3,g1,aUo,hwi,aB,bG,hi,zA,hg,hg' h0,oL Pe,oL aQy,VG];apply bK;clear bK K2
      cases fH:decide (ps[i]=ps[i -1]) with
      |true=>rw[fH] at eM;simp only[↓zP,zG,seval];refine Rx ?_;rw[eM rfl];rfl
      |false=>rw[fH] at iE;simp only[↓zP,zG,seval];exact⟨trivial,iE rfl⟩
    have d0:=Ae (show ¬(i:Int)>0 by omega);rw[Ae h0] at iE;simp only[↓zP,zJ,seval,zD,e1,dR,d0];apply bK;clear bK K2;simp only[↓zP,zG,seval];exact⟨trivial,iE rfl⟩
 rintro f4 H1 hk ⟨rfl,bM⟩;have u3:f4 3=.ref 1 0:=by rw[hk 3 rfl];simp only[zB,seval];exact f3
 rw[Qe bM,if_neg (by decide)] at gG
 have hB:Va k ps.length=if Vg k then decide ((ps.length:Int)<2)||decide ((ps.length:Int)>32) else decide ((ps.length:Int)>0):=rfl
 rw[hB] at gG;clear hB hk bM;simp only[↓zP,seval];apply hK;clear hK K;generalize Vg k=mv at *;generalize Sv:decide ((ps.length:Int)<2)=c1 at *;generalize uP:decide ((ps.length:Int)>32)=c2 at *;generalize xc:decide ((ps.length:Int)>0)=c3 at *;refine bQ ?_;simp only[↓zP,zJ,seval,u3,g1,lp];refine bR ?_;refine aG fun K hK=>?_;simp only[↓zP,zJ,seval,u3,g1];refine bW (GB _) ?_;cases mv
 · simp only[↓zP,zJ,seval,u3,g1,gU];refine bW (GB _) ?_;cases c3
   · simp only[↓zP,zJ,seval,xc];apply hK;clear hK K;simp only[↓zP,zG,seval];refine Rx ?_;rw[gG];rfl
   simp only[↓zP,zJ,seval,xc];refine Rx ?_;rw[gG];rfl
 cases c1
 · cases c2
   · simp only[↓zP,zJ,seval,u3,g1,Sv,uP];refine bW (GB _) ?_;simp only[↓zP,zJ,seval];apply hK;clear hK K;simp only[↓zP,zG,seval];refine Rx ?_;rw[gG];rfl
   simp only[↓zP,zG,seval,Sv,uP,gU];refine Rx ?_;rw[gG];rfl
 simp only[↓zP,zG,seval,Sv,gU];refine Rx ?_;rw[gG];rfl
def YG (n r u:Nat) (s:Sc):Bool:=(s.st.length:Int) != n||((s.ps.length:Int) != n||((s.vs.length:Int) != n||((s.ws.length:Int) != n||((s.ta.length:Int) != r||(s.ac.length:Int) != u))))
def tq (p q v w:List Int) (b:Bool):Bool:=iO p != 0||((!(wR 1099511627775 v&&wR 1099511627775 w))||(!b&&(!decide (p=q)|| !(decide (v=zV)&&decide (w=zV)))))
def GW (ts:List Th) (s:Sc) (k:Nat):Bool:=tq (s.ps.getD k []) ((ts.map (·.store)).getD k []) (s.vs.getD k []) (s.ws.getD k []) (s.st.getD k false)
def HK (ts:List Th) (r u:Nat) (s:Sc):Bool:= !YG ts.length r u s&& !(List.range ts.length).any (GW ts s)
theorem Qy {ts:List Th} {r u:Nat} {s:Sc} (h:YG ts.length r u s=true):HK ts r u s=false:=by unfold HK;rw[h];rfl
theorem Uq {ts:List Th} {r u:Nat} {s:Sc} {i:Nat} (hi:i<ts.length) (h:GW ts s i=true):HK ts r u s=false:=by unfold HK;rw[Bu.2 ⟨i,Ba.2 hi,h⟩];simp
theorem Qz {ts:List Th} {r u:Nat} {s:Sc} (h:YG ts.length r u s=false) (h2:∀i,i<ts.length->GW ts s i=false):HK ts r u s=true:=by
 have :(List.range ts.length).any (GW ts s)=false:=by rw[Ek];intro i hi;rw[h2 i (Ba.1 hi)];decide
 unfold HK;rw[h,this];rfl
theorem bm {n r u:Nat} {s:Sc} (h:YG n r u s=false):s.st.length=n/\s.ps.length=n/\s.vs.length=n/\s.ws.length=n/\s.ta.length=r/\s.ac.length=u:=by simp only[YG,Eg,bne_eq_false_iff_eq] at h;omega
theorem aEm {g r0 r1:Int} {ts:List Th} {rs us:List (List Int)} {tv rv uv:AV} {s:Sc} (sH:lO tv 14 (uH ts)) (uY:lO rv 8 (cC rs)) (zF:lO uv 10 (cC us)) (ht:∀t∈ts,t.OK) (hs:s.OK) (MR:ts.length<2^30) (H:aA):
 Sg 8 [.agg (yC g r0 r1 tv rv uv),.agg s.cs] H (.ret (.bool (HK ts rs.length us.length s))) H:=by
 refine So is8 (by simp only[yC,bL,AV.free,Sc.free hs,sH.free (kE ht),uY.free (bU _),zF.free (bU _)];rfl) ?_ H;unfold W8;dsimp only;have lt:=sH.len;have lr:=uY.len;have lu:=zF.len;have q1:=hs.st.len;have q2:=hs.ps.len;have q3:=hs.vs.len;have q4:=hs.ws.len;have q5:=hs.ta.len;have q6:=hs.ac.len;simp only[cX] at lt lr lu q1 q2 q3 q4 q5 q6;rw[dE] at lt;rw[bG] at lr lu q2 q3 q4;rw[iJ] at q1 q5 q6;have VA:=Qy (ts:=ts) (r:=rs.length) (u:=us.length) (s:=s);have hL2:=bm (n:=ts.length) (r:=rs.length) (u:=us.length) (s:=s);have Zp:=Qz (ts:=ts) (r:=rs.length) (u:=us.length) (s:=s);unfold YG at VA hL2 Zp;refine bQ ?_;simp only[↓zP,zJ,seval,yC,Sc.cs];refine bR ?_;generalize hX:((aA.mk 0 .nil).alloc _).alloc _=HA;have g0:HA.get 0=some (.cells [.int .i64 g,.int .i64 r0,.int .i64 r1,tv,rv,uv] false):=by subst hX;simp only[zI,seval]
 have g1:HA.get 1=some (.cells [s.sv,s.pv,s.vv,s.wv,s.tv,s.av] false):=by subst hX;simp only[zI,seval]
 have gn:2<=HA.next:=by subst hX;simp only[zI,seval]
 clear hX;refine dT fun f jL=>?_;have f2:f 2=.ref 0 0:=by subst jL;simp only[zB,seval]
 have f3:f 3=.ref 1 0:=by subst jL;simp only[zB,seval]
 clear jL;refine bQ ?_;simp only[↓zP,zJ,seval,f2,g0,lt];refine bR ?_;refine aG fun K hK=>?_;generalize dR:((s.st.length:Int) != (ts.length:Nat))=b1 at *;generalize fH:((s.ps.length:Int) != (ts.length:Nat))=b2 at *;generalize tS:((s.vs.length:Int) != (ts.length:Nat))=b3 at *;generalize uK:((s.ws.length:Int) != (ts.length:Nat))=b4 at *;generalize CB:((s.ta.length:Int) != (rs.length:Nat))=b5 at *;generalize Nt:((s.ac.length:Int) != (us.length:Nat))=b6 at *;cases b1;rotate_left
 · simp only[↓zP,zJ,seval,f3,g1,q1,dR];refine Rx ?_;rw[VA rfl];rfl
 cases b2;rotate_left
 · simp only[↓zP,zJ,seval,f3,g1,q1,q2,dR,fH];refine Rx ?_;rw[VA rfl];rfl
 cases b3;rotate_left
 · simp only[↓zP,zJ,seval,f3,g1,q1,q2,q3,dR,fH,tS];refine Rx ?_;rw[VA rfl];rfl
 cases b4;rotate_left
 · simp only[↓zP,zJ,seval,f3,g1,q1,q2,q3,q4,dR,fH,tS,uK];refine Rx ?_;rw[VA rfl];rfl
 cases b5;rotate_left
 · simp only[↓zP,zJ,seval,f2,f3,g0,g1,lr,q1,q2,q3,q4,q5,dR,fH,tS,uK,CB];refine Rx ?_;rw[VA rfl];rfl
 cases b6;rotate_left
 · simp only[↓zP,zJ,seval,f2,f3,g0,g1,lr,lu,q1,q2,q3,q4,q5,q6,dR,fH,tS,uK,CB,Nt];refine Rx ?_;rw[VA rfl];rfl
 obtain⟨e1,e2,e3,e4,e5,e6⟩:=hL2 rfl;have Zp:=Zp rfl;simp only[↓zP,zJ,seval,f2,f3,g0,g1,lr,lu,q1,q2,q3,q4,q5,q6,dR,fH,tS,uK,CB,Nt];apply hK;clear hK K VA hL2 dR fH tS uK CB Nt;refine aG fun K hK=>?_;refine bQ ?_;simp only[↓zP,zJ,seval,f3,g1,q2];refine bR ?_;refine bO [] (fun i vs H'=>H'.get 0=some (.cells [.int .i64 g,.int .i64 r0,.int .i64 r1,tv,rv,uv] false)/\H'.get 1=some (.cells [s.sv,s.pv,s.vv,s.wv,s.tv,s.av] false)/\2<=H'.next/\∀k,k<i->GW ts s k=false) s.ps.length (by omega) (by decide) ?_ ?_ ?_ ?_ ?_
 · simp only[zB,seval]
 · simp only[zB,seval]
 · exact⟨g0,g1,gn,fun k hk=>absurd hk (As _)⟩
 · rintro i f4 H1 hi hk x1 ⟨m0,m1,mn,bM⟩;have u2:f4 2=.ref 0 0:=by rw[hk 2 rfl];simp only[zB,seval];exact f2
   have u3:f4 3=.ref 1 0:=(by rw[hk 3 rfl];simp only[zB,seval];exact f3);have zA:i<s.st.length:=(by omega);have Nx:i<s.vs.length:=(by omega);have kc:i<s.ws.length:=(by omega);have Ny:i<ts.length:=(by omega);have IF:s.sv=.aU 0 1 (bE s.st):=hs.st.aU (i:=i) (by rw[iJ];exact zA);have qQ:s.pv=.aU 0 7 (cC s.ps):=hs.ps.aU (i:=i) (by rw[bG];exact hi);have II:s.vv=.aU 0 3 (cC s.vs):=hs.vs.aU (i:=i) (by rw[bG];exact Nx);have hwl:s.wv=.aU 0 3 (cC s.ws):=hs.ws.aU (i:=i) (by rw[bG];exact kc);have MR:tv=.aU 0 14 (uH ts):=sH.aU (i:=i) (by rw[dE];exact Ny);have u57:f4 57=.aU 0 7 (cC s.ps):=(by rw[hk 57 rfl];simp only[zB,seval];exact qQ);have CT:=GV zA;have Kn:=dY hi;have hg3:=dY Nx;have Zy:=dY kc;have hgt:=oQ Ny;obtain⟨p7,p64⟩:=hs.p7 _ (Ac hi);have v3:=(hs.v3 _ (Ac Nx)).1;have w3:=(hs.w3 _ (Ac kc)).1;have pG:=ht _ (Ac Ny);have ki:=Ox p7 p64;have Sr:GW ts s i=tq s.ps[i] ts[i].store s.vs[i] s.ws[i] s.st[i]:=by unfold GW;simp[hi,Ny,Nx,kc,zA]
   have iE:GW ts s i=false->∀k,k<i+1->GW ts s k=false:=fun h k hk=>by
    by_cases e:k=i
    · subst e;exact h
    exact bM k (by omega)
   have eM:=Uq (s:=s) (r:=rs.length) (u:=us.length) Ny;rw[Sr] at iE eM;have JY:=Th.len pG;have q7:=pG.store
   have k7:(ts[i].cs.drop 7).take 7=iC ts[i].store:=by have :ts[i].cs.drop 7=iC ts[i].store:=rfl;rw[this,Ar (by rw[cN,q7];decide)]
   have k7':ts[i].cs.drop 7=iC ts[i].store:=rfl;have kf:(iC ts[i].store).length=7:=(by rw[cN,q7]);generalize ts[i].store=q at *;generalize ts[i]=t at *;generalize s.st[i]=sb at *;generalize s.ps[i]=p at *;generalize s.vs[i]=v at *;generalize s.ws[i]=w at *;have Pe:(iC p).length=7:=(by rw[cN,p7]);have Tx:(iC v).length=3:=(by rw[cN,v3]);have aa:(iC w).length=3:=(by rw[cN,w3]);have yh:=xS v3;have hz2:=xS w3;have hpq:cJ [.i,.i,.i,.i,.i,.i,.i] (iC p) (iC q)=some (decide (p=q)):=uW (n:=7) p7 q7
   have hwi:=BN (m:=1099511627775) (by decide) (L:=[v,w]) (by
    intro x hx;simp only[Ap,Br,Dq] at hx
    rcases hx with rfl|rfl<;>assumption) (by simp) (.inr ⟨1,rfl,rfl⟩)
   simp only[Bv,Fg,Ho,List.all_nil,Fs] at hwi;unfold tq at iE eM;generalize decide (v=zV)=z1 at *;generalize decide (w=zV)=z2 at *;generalize decide (p=q)=e at *;generalize (wR 1099511627775 v&&wR 1099511627775 w)=ib at *;refine aF ?_;refine bQ ?_;simp only[↓zP,zJ,seval,x1,u57,aB,bG,hi,Kn,oL Pe];refine bR ?_;generalize hX:(H1.alloc _).set H1.next _=H3;have y0:H3.get 0=some (.cells [.int .i64 g,.int .i64 r0,.int .i64 r1,tv,rv,uv] false):=(by subst hX;rw[aA.aC,if_neg (by omega),aA.aJ,if_neg (by omega)];exact m0);have y1:H3.get 1=some (.cells [s.sv,s.pv,s.vv,s.wv,s.tv,s.av] false):=(by subst hX;rw[aA.aC,if_neg (by omega),aA.aJ,if_neg (by omega)];exact m1);have y7:H3.get H1.next=some (.cells (iC p) false):=(by subst hX;rw[aA.aC,if_pos rfl]);have yn:2<=H3.next:=(by subst hX;simp only[aA.aW,aA.aZ];omega);clear hX m0 m1 bM;generalize H1.next=r7 at *;refine dT fun f jL=>?_;have v2:f 2=.ref 0 0:=(by subst jL;simp only[zB,seval];exact u2);have SD:f 3=.ref 1 0:=(by subst jL;simp only[zB,seval];exact u3);have v6:f 6=.int .i64 i:=(by subst jL;simp only[zB,seval]);have v7:f 7=.ref r7 0:=(by subst jL;simp only[zB,seval]);clear jL;refine aG fun K2 bK=>?_
   have key:∀f:dD,f 2=.ref 0 0->f 3=.ref 1 0->f 6=.int .i64 i->f 7=.ref r7 0->f 8=.bool (z1&&z2)->K2 f [] H3:=by
    intro f v2 SD v6 v7 v8;apply bK;clear bK K2;refine aG fun K2 bK=>?_;refine Dz ?_;simp only[↓zP,zJ,seval,zD,v7,y7,oL Pe];refine eE (ki _) ?_
    cases dR:(iO p != 0) with
    |true=>rw[dR] at eM;simp only[↓zP,zJ,seval,zD,dR,gU];apply bK;clear bK K2;simp only[↓zP,zG,seval];refine Rx ?_;rw[eM rfl];rfl
    |false=>
    rw[dR] at eM iE;simp only[↓zP,zJ,seval,zD,dR,SD,v6,y1,II,hwl,aB,bG,Nx,kc,hg3,Zy,oL Tx,oL aa];refine eE (hwi _) ?_;cases ib
    · simp only[↓zP,zJ,seval,zD,gU];apply bK;clear bK K2;simp only[↓zP,zG,seval];refine Rx ?_;rw[eM rfl];rfl
    cases sb;rotate_left
    · simp only[↓zP,zJ,seval,zD,SD,v6,y1,IF,aB,iJ,zA,CT,gU];apply bK;clear bK K2;simp only[↓zP,zG,seval];exact⟨y0,y1,yn,iE rfl⟩
    cases e
    · simp only[↓zP,zJ,seval,zD,v2,SD,v6,v7,y0,y1,y7,IF,MR,aB,iJ,dE,zA,Ny,CT,hgt,k7',oL Pe,oL kf,hpq];apply bK;clear bK K2;simp only[↓zP,zG,seval];refine Rx ?_;rw[eM rfl];rfl
    generalize (z1&&z2)=z at *;cases z
    · simp only[↓zP,zJ,seval,zD,v2,SD,v6,v7,v8,y0,y1,y7,IF,MR,aB,iJ,dE,zA,Ny,CT,hgt,k7',oL Pe,oL kf,hpq];apply bK;clear bK K2;simp only[↓zP,zG,seval];refine Rx ?_;rw[eM rfl];rfl
    simp only[↓zP,zJ,seval,zD,v2,SD,v6,v7,v8,y0,y1,y7,IF,MR,aB,iJ,dE,zA,Ny,CT,hgt,k7',oL Pe,oL kf,hpq];apply bK;clear bK K2;simp only[↓zP,zG,seval];exact⟨y0,y1,yn,iE rfl⟩
   cases z1
   · simp only[↓zP,zJ,seval,SD,v6,y1,II,aB,bG,Nx,hg3,oL Tx,yh];exact key _ (by simp only[zB,seval];exact v2) (by simp only[zB,seval];exact SD) (by simp only[zB,seval];exact v6) (by simp only[zB,seval];exact v7) rfl
   simp only[↓zP,zJ,seval,SD,v6,y1,II,hwl,aB,bG,Nx,kc,hg3,Zy,oL Tx,oL aa,yh,hz2];exact key _ (by simp only[zB,seval];exact v2) (by simp only[zB,seval];exact SD) (by simp only[zB,seval];exact v6) (by simp only[zB,seval];exact v7) rfl
 rintro f4 H1 hk ⟨m0,m1,mn,bM⟩;simp only[↓zP,seval];apply hK;clear hK K;simp only[↓zP,zG,seval];refine Rx ?_;rw[Zp fun k hk=>bM k (by omega)];rfl
theorem aAs {g r0 r1:Int} {ts:List Th} {rs us:List (List Int)} {tv rv uv:AV} {s:Sc} (sH:lO tv 14 (uH ts)) (uY:lO rv 8 (cC rs)) (zF:lO uv 10 (cC us)) (ht:∀t∈ts,t.OK) (hs:s.OK) (MR:ts.length<2^30) (H:aA):
 Sg 9 [.agg (yC g r0 r1 tv rv uv),.agg s.cs] H (.ret (.bool (HK ts rs.length us.length s))) H:=by
 refine So is9 (by simp only[yC,bL,AV.free,Sc.free hs,sH.free (kE ht),uY.free (bU _),zF.free (bU _)];rfl) ?_ H;unfold W9;dsimp only;have lt:=sH.len;have lr:=uY.len;have lu:=zF.len;have q1:=hs.st.len;have q2:=hs.ps.len;have q3:=hs.vs.len;have q4:=hs.ws.len;have q5:=hs.ta.len;have q6:=hs.ac.len;simp only[cX] at lt lr lu q1 q2 q3 q4 q5 q6;rw[dE] at lt;rw[bG] at lr lu q2 q3 q4;rw[iJ] at q1 q5 q6;have VA:=Qy (ts:=ts) (r:=rs.length) (u:=us.length) (s:=s);have hL2:=bm (n:=ts.length) (r:=rs.length) (u:=us.length) (s:=s);have Zp:=Qz (ts:=ts) (r:=rs.length) (u:=us.length) (s:=s);unfold YG at VA hL2 Zp;refine bQ ?_;simp only[↓zP,zJ,seval,yC,Sc.cs];refine bR ?_;generalize hX:((aA.mk 0 .nil).alloc _).alloc _=HA;have g0:HA.get 0=some (.cells [.int .i64 g,.int .i64 r0,.int .i64 r1,tv,rv,uv] false):=by subst hX;simp only[zI,seval]
 have g1:HA.get 1=some (.cells [s.sv,s.pv,s.vv,s.wv,s.tv,s.av] false):=by subst hX;simp only[zI,seval]
 have gn:2<=HA.next:=by subst hX;simp only[zI,seval]
 clear hX;refine dT fun f jL=>?_;have f2:f 2=.ref 0 0:=by subst jL;simp only[zB,seval]
 have f3:f 3=.ref 1 0:=by subst jL;simp only[zB,seval]
 clear jL;refine bQ ?_;simp only[↓zP,zJ,seval,f2,g0,lt];refine bR ?_;refine aG fun K hK=>?_;generalize dR:((s.st.length:Int) != (ts.length:Nat))=b1 at *;generalize fH:((s.ps.length:Int) != (ts.length:Nat))=b2 at *;generalize tS:((s.vs.length:Int) != (ts.length:Nat))=b3 at *;generalize uK:((s.ws.length:Int) != (ts.length:Nat))=b4 at *;generalize CB:((s.ta.length:Int) != (rs.length:Nat))=b5 at *;generalize Nt:((s.ac.length:Int) != (us.length:Nat))=b6 at *;cases b1;rotate_left
 · simp only[↓zP,zJ,seval,f3,g1,q1,dR];refine Rx ?_;rw[VA rfl];rfl
 cases b2;rotate_left
 · simp only[↓zP,zJ,seval,f3,g1,q1,q2,dR,fH];refine Rx ?_;rw[VA rfl];rfl
 cases b3;rotate_left
 · simp only[↓zP,zJ,seval,f3,g1,q1,q2,q3,dR,fH,tS];refine Rx ?_;rw[VA rfl];rfl
 cases b4;rotate_left
 · simp only[↓zP,zJ,seval,f3,g1,q1,q2,q3,q4,dR,fH,tS,uK];refine Rx ?_;rw[VA rfl];rfl
 cases b5;rotate_left
 · simp only[↓zP,zJ,seval,f2,f3,g0,g1,lr,q1,q2,q3,q4,q5,dR,fH,tS,uK,CB];refine Rx ?_;rw[VA rfl];rfl
 cases b6;rotate_left
 · simp only[↓zP,zJ,seval,f2,f3,g0,g1,lr,lu,q1,q2,q3,q4,q5,q6,dR,fH,tS,uK,CB,Nt];refine Rx ?_;rw[VA rfl];rfl
 obtain⟨e1,e2,e3,e4,e5,e6⟩:=hL2 rfl;have Zp:=Zp rfl;simp only[↓zP,zJ,seval,f2,f3,g0,g1,lr,lu,q1,q2,q3,q4,q5,q6,dR,fH,tS,uK,CB,Nt];apply hK;clear hK K VA hL2 dR fH tS uK CB Nt;refine aG fun K hK=>?_;simp only[↓zP,zG,seval];refine bN [] (fun i vs H'=>H'=HA/\∀k,k<i->GW ts s k=false) 0 ts.length (Az _) (by omega) (by decide) ?_ ?_ ?_ ?_ ?_
 · simp only[zB,seval]
 · exact⟨rfl,fun k hk=>absurd hk (As _)⟩
 · rintro i f4 H1 h0 hi hk x1 ⟨rfl,_⟩;have u5:f4 5=.int .i64 ts.length:=hk 5 rfl;simp only[↓zP,zG,seval,x1,u5];exact tB (by omega)
 · rintro i f4 H1 h0 Ny hk x1 ⟨rfl,bM⟩;have u2:f4 2=.ref 0 0:=by rw[hk 2 rfl];simp only[zB,seval];exact f2
   have u3:f4 3=.ref 1 0:=(by rw[hk 3 rfl];simp only[zB,seval];exact f3);have hi:i<s.ps.length:=(by omega);have zA:i<s.st.length:=(by omega);have Nx:i<s.vs.length:=(by omega);have kc:i<s.ws.length:=(by omega);have IF:s.sv=.aU 0 1 (bE s.st):=hs.st.aU (i:=i) (by rw[iJ];exact zA);have qQ:s.pv=.aU 0 7 (cC s.ps):=hs.ps.aU (i:=i) (by rw[bG];exact hi);have II:s.vv=.aU 0 3 (cC s.vs):=hs.vs.aU (i:=i) (by rw[bG];exact Nx);have hwl:s.wv=.aU 0 3 (cC s.ws):=hs.ws.aU (i:=i) (by rw[bG];exact kc);have MR:tv=.aU 0 14 (uH ts):=sH.aU (i:=i) (by rw[dE];exact Ny);have CT:=GV zA;have Kn:=dY hi;have hg3:=dY Nx;have Zy:=dY kc;have hgt:=oQ Ny;obtain⟨p7,p64⟩:=hs.p7 _ (Ac hi);have v3:=(hs.v3 _ (Ac Nx)).1;have w3:=(hs.w3 _ (Ac kc)).1;have pG:=ht _ (Ac Ny);have ki:=LM p7;have Sr:GW ts s i=tq s.ps[i] ts[i].store s.vs[i] s.ws[i] s.st[i]:=by unfold GW;simp[hi,Ny,Nx,kc,zA]
   have iE:GW ts s i=false->∀k,k<i+1->GW ts s k=false:=fun h k hk=>by
    by_cases e:k=i
    · subst e;exact h
    exact bM k (by omega)
   have eM:=Uq (s:=s) (r:=rs.length) (u:=us.length) Ny;rw[Sr] at iE eM;have JY:=Th.len pG;have q7:=pG.store
   have k7:(ts[i].cs.drop 7).take 7=iC ts[i].store:=by have :ts[i].cs.drop 7=iC ts[i].store:=rfl;rw[this,Ar (by rw[cN,q7];decide)]
   have k7':ts[i].cs.drop 7=iC ts[i].store:=rfl;have kf:(iC ts[i].store).length=7:=(by rw[cN,q7]);generalize ts[i].store=q at *;generalize ts[i]=t at *;generalize s.st[i]=sb at *;generalize s.ps[i]=p at *;generalize s.vs[i]=v at *;generalize s.ws[i]=w at *;have Pe:(iC p).length=7:=(by rw[cN,p7]);have Tx:(iC v).length=3:=(by rw[cN,v3]);have aa:(iC w).length=3:=(by rw[cN,w3]);have yh:=xS v3;have hz2:=xS w3;have hpq:cJ [.i,.i,.i,.i,.i,.i,.i] (iC p) (iC q)=some (decide (p=q)):=uW (n:=7) p7 q7;have hwv:=mE (m:=1099511627775) (by decide) v3;have hww:=mE (m:=1099511627775) (by decide) w3;unfold tq at iE eM;generalize decide (v=zV)=z1 at *;generalize decide (w=zV)=z2 at *;generalize decide (p=q)=e at *;generalize wR 1099511627775 v=b2 at *;generalize wR 1099511627775 w=b3 at *;refine aF ?_;refine bQ ?_;simp only[↓zP,zJ,seval,x1,u3,g1,qQ,aB,bG,hi,Kn,oL Pe];refine bW (ki _) ?_
   cases dR:(iO p != 0) with
   |true=>rw[dR] at eM;simp only[↓zP,zG,seval,dR];refine Rx ?_;rw[eM rfl];rfl
   |false=>
   rw[dR] at eM iE;simp only[↓zP,zJ,seval,dR,x1,u3,g1,II,aB,bG,Nx,hg3,oL Tx];refine bW (hwv _) ?_;cases b2
   · simp only[↓zP,zJ,seval];refine Rx ?_;rw[eM (by cases b3<;>rfl)];rfl
   simp only[↓zP,zJ,seval,x1,u3,g1,hwl,aB,bG,kc,Zy,oL aa];refine bW (hww _) ?_;cases b3
   · simp only[↓zP,zJ,seval];refine Rx ?_;rw[eM rfl];rfl
   simp only[↓zP,zJ,seval];refine bR ?_;refine dT fun f jL=>?_;have v2:f 2=.ref 0 0:=(by subst jL;simp only[zB,seval];exact u2);have SD:f 3=.ref 1 0:=(by subst jL;simp only[zB,seval];exact u3);have v6:f 6=.int .i64 i:=(by subst jL;simp only[zB,seval];exact x1);clear jL;refine aG fun K2 bK=>?_
   have key:∀f:dD,f 2=.ref 0 0->f 3=.ref 1 0->f 6=.int .i64 i->f 7=.bool (z1&&z2)->K2 f [] H1:=by
    intro f v2 SD v6 v7;apply bK;clear bK K2;refine aG fun K2 bK=>?_;refine Dz ?_;cases sb;rotate_left
    · simp only[↓zP,zJ,seval,zD,SD,v6,g1,IF,aB,iJ,zA,CT,gU];apply bK;clear bK K2;simp only[↓zP,zG,seval];exact⟨trivial,iE rfl⟩
    generalize (z1&&z2)=z at *;cases z
    · simp only[↓zP,zJ,seval,zD,SD,v6,v7,g1,IF,aB,iJ,zA,CT];apply bK;clear bK K2;simp only[↓zP,zG,seval];refine Rx ?_;rw[eM (by cases e<;>rfl)];rfl
    cases e
    · simp only[↓zP,zJ,seval,zD,v2,SD,v6,v7,g0,g1,IF,qQ,MR,aB,iJ,bG,dE,hi,zA,Ny,CT,Kn,hgt,k7',oL Pe,oL kf,hpq];apply bK;clear bK K2;simp only[↓zP,zG,seval];refine Rx ?_;rw[eM rfl];rfl
    simp only[↓zP,zJ,seval,zD,v2,SD,v6,v7,g0,g1,IF,qQ,MR,aB,iJ,bG,dE,hi,zA,Ny,CT,Kn,hgt,k7',oL Pe,oL kf,hpq];apply bK;clear bK K2;simp only[↓zP,zG,seval];exact⟨trivial,iE rfl⟩
   cases z1
   · simp only[↓zP,zJ,seval,SD,v6,g1,II,aB,bG,Nx,hg3,oL Tx,yh];exact key _ (by simp only[zB,seval];exact v2) (by simp only[zB,seval];exact SD) (by simp only[zB,seval];exact v6) rfl
   simp only[↓zP,zJ,seval,SD,v6,g1,II,hwl,aB,bG,Nx,kc,hg3,Zy,oL Tx,oL aa,yh,hz2];exact key _ (by simp only[zB,seval];exact v2) (by simp only[zB,seval];exact SD) (by simp only[zB,seval];exact v6) rfl
 rintro f4 H1 hk ⟨rfl,bM⟩;simp only[↓zP,seval];apply hK;clear hK K;simp only[↓zP,zG,seval];refine Rx ?_;rw[Zp fun k hk=>bM k (by omega)];rfl
def Uo (t:Th):Bool:= !decide ((t.ps.length:Int)>2)&&t.ps.all fun p=> !decide ((p.2.length:Int)>10)
def Ra (n r u:Nat):Bool:=decide ((n:Int)>6)||(decide ((r:Int)>20)||decide ((u:Int)>20))
def Px (ts:List Th) (r u:Nat):Bool:= !Ra ts.length r u&&ts.all Uo
theorem vg {ts:List Th} {r u:Nat} (h:Px ts r u=true):ts.length<=6/\r<=20/\u<=20/\∀t∈ts,t.Few:=by simp only[Px,Ra,Am,Cp,Eg,Bk,Aw] at h;refine⟨by omega,by omega,by omega,fun t ht=>?_⟩;have h2:=h.2 t ht;simp only[Uo,Am,Cp,Bk,Aw] at h2;exact⟨by omega,fun p hp=>by have :=h2.2 p hp;omega⟩
theorem aQg {g r0 r1:Int} {ts:List Th} {rs us:List (List Int)} {tv rv uv:AV} (sH:lO tv 14 (uH ts)) (uY:lO rv 8 (cC rs)) (zF:lO uv 10 (cC us)) (ht:∀t∈ts,t.OK) (H:aA):
 Sg 4 [.agg (yC g r0 r1 tv rv uv)] H (.ret (.bool (Px ts rs.length us.length))) H:=by
 refine So is4 (by simp only[yC,sf,sH.free (kE ht),uY.free (bU _),zF.free (bU _)]) ?_ H;unfold W4;dsimp only;have lt:=sH.len;have lr:=uY.len;have lu:=zF.len;simp only[cX] at lt lr lu;rw[dE] at lt;rw[bG] at lr lu;have hY:Px ts rs.length us.length=(!Ra ts.length rs.length us.length&&ts.all Uo):=rfl
 have h6:Ra ts.length rs.length us.length=false->ts.length<=6:=fun h=>by simp only[Ra,Eg,Bk] at h;omega
 unfold Ra at hY h6;generalize dR:decide ((ts.length:Int)>6)=b1 at *;generalize fH:decide ((rs.length:Int)>20)=b2 at *;generalize tS:decide ((us.length:Int)>20)=b3 at *;refine bQ ?_;simp only[↓zP,zJ,seval,yC];refine bR ?_;refine aG fun K hK=>?_;cases b1<;>cases b2<;>cases b3;rotate_left
 iterate 7 (simp only[↓zP,zJ,seval,lt,lr,lu,dR,fH,tS];refine Rx ?_;rw[hY];rfl)
 have h6:=h6 rfl;simp only[↓zP,zJ,seval,lt,lr,lu,dR,fH,tS];apply hK;clear hK K dR fH tS;generalize hX:(aA.mk 0 .nil).alloc _=HA;have g0:HA.get 0=some (.cells [.int .i64 g,.int .i64 r0,.int .i64 r1,tv,rv,uv] false):=by subst hX;simp only[zI,seval]
 clear hX;refine dT fun f jL=>?_;have f1:f 1=.ref 0 0:=by subst jL;simp only[zB,seval]
 clear jL
 have eM:∀{i:Nat} (hi:i<ts.length),Uo ts[i]=false->Px ts rs.length us.length=false:=fun hi h=>by rw[hY,Ec.2 ⟨_,Ac hi,by rw[h];decide⟩];rfl
 have yg:(∀t∈ts,Uo t=true)->Px ts rs.length us.length=true:=fun h=>by rw[hY,Aw.2 h];rfl
 clear hY;refine aG fun K hK=>?_;simp only[↓zP,zG,seval];refine bN [] (fun i vs H'=>H'=HA/\∀t∈ts.take i,Uo t=true) 0 ts.length (Az _) (by omega) (by decide) ?_ ?_ ?_ ?_ ?_
 · simp only[zB,seval]
 · exact⟨rfl,fun p hp=>by simp at hp⟩
 · rintro i f4 H1 h0 hi hk e1 ⟨rfl,_⟩;have u1:f4 1=.ref 0 0:=by rw[hk 1 rfl];simp only[zB,seval];exact f1
   simp only[↓zP,zJ,seval,e1,u1,g0,lt];exact tB (by omega)
 · rintro i f4 H1 h0 hi hk e1 ⟨rfl,bM⟩;have u1:f4 1=.ref 0 0:=by rw[hk 1 rfl];simp only[zB,seval];exact f1
   have MR:tv=.aU 0 14 (uH ts):=sH.aU (i:=i) (by rw[dE];exact hi);have hg:=oQ hi;have pG:=ht _ (Ac hi);have iE:=List.qV hi bM;have eM:=eM hi;have JY:=Th.len pG;have k2:List.drop 1 (List.drop 1 ts[i].cs)=ts[i].pv::ts[i].cs.drop 3:=rfl
   have hpr:lO ts[i].pv 1 (sI ts[i].ps):=by
    rcases pG.parts with ⟨h1,h2⟩|h
    · exact .inl ⟨h1,by rw[h2];rfl⟩
    exact .inr h
   have VL:=pG.part;generalize ts[i]=t at *;have kr:=hpr.len;simp only[cX] at kr;have DJ:(sI t.ps).length=t.ps.length:=Ai _;rw[DJ] at kr;refine aF ?_;refine bQ ?_;have hT:Uo t=(!decide ((t.ps.length:Int)>2)&&t.ps.all fun p=> !decide ((p.2.length:Int)>10)):=rfl;cases dR:decide ((t.ps.length:Int)>2);rotate_left
   · simp only[↓zP,zJ,seval,e1,u1,g0,MR,aB,dE,hi,hg,k2,kr,dR];refine Rx ?_;rw[eM (by rw[hT,dR];rfl)];rfl
   have h2:=Cs dR;simp only[↓zP,zJ,seval,e1,u1,g0,MR,aB,dE,hi,hg,k2,kr,dR];refine bR ?_;rw[dR] at hT;simp only[↓zP,zG,seval];refine bN [] (fun j vs H'=>H'=H1/\∀p∈t.ps.take j,(!decide ((p.2.length:Int)>10))=true) 0 t.ps.length (Az _) (by omega) (by decide) ?_ ?_ ?_ ?_ ?_
   · simp only[zB,seval]
   · exact⟨rfl,fun p hp=>by simp at hp⟩
   · rintro j f5 H2 Nq hj dP e2 ⟨rfl,_⟩;have v1:f5 1=.ref 0 0:=(by rw[dP 1 rfl];simp only[zB,seval];exact u1);have v3:f5 3=.int .i64 i:=(by rw[dP 3 rfl];simp only[zB,seval];exact e1);simp only[↓zP,zJ,seval,e2,v1,v3,g0,MR,aB,dE,hi,hg,k2,kr];exact tB (by omega)
   · rintro j f5 H2 Nq hj dP e2 ⟨rfl,rE⟩;have v1:f5 1=.ref 0 0:=(by rw[dP 1 rfl];simp only[zB,seval];exact u1);have v3:f5 3=.int .i64 i:=(by rw[dP 3 rfl];simp only[zB,seval];exact e1);have k2':t.pv=.aU 0 1 (sI t.ps):=hpr.aU (i:=j) (by rw[DJ];exact hj);have xj:(sI t.ps).getD j []=[t.ps[j].1]:=(by simp[sI,hj]);have QF:=VL _ (Ac hj);have QG:=List.qV hj rE
     have Xz:(!decide ((t.ps[j].2.length:Int)>10))=false->Uo t=false:=fun h=>by rw[hT,Ec.2 ⟨_,Ac hj,by rw[h];decide⟩];rfl
     generalize t.ps[j]=q at *
     have lq:∀H:aA,cX (fun _=>q.1) H (.OQ (.tmp 0))=some (.int .i64 q.2.length,H):=fun H=>by
      rcases QF with ⟨h1,h2⟩|h1
      · rw[h1,h2];rfl
      rw[h1];simp[cX,aN]
     simp only[cX] at lq;refine aF ?_;cases fH:decide ((q.2.length:Int)>10)
     · rw[fH] at QG;simp only[↓zP,zJ,seval,e2,v1,v3,g0,MR,aB,dE,hi,hg,k2,k2',DJ,hj,xj,lq,fH];exact⟨trivial,QG rfl⟩
     rw[fH] at Xz;simp only[↓zP,zJ,seval,e2,v1,v3,g0,MR,aB,dE,hi,hg,k2,k2',DJ,hj,xj,lq,fH];refine Rx ?_;rw[eM (Xz rfl)];rfl
   rintro f5 H2 dP ⟨rfl,rE⟩;rw[Ao] at rE;simp only[↓zP,seval];exact⟨trivial,iE (by rw[hT,Aw.2 rE];rfl)⟩
 rintro f4 H1 hk ⟨rfl,bM⟩;rw[Ao] at bM;simp only[↓zP,seval];apply hK;clear hK K;simp only[↓zP,zG,seval];refine Rx ?_;rw[yg bM];rfl
end Go.Proofs.YtndkpgceodimiaaGreatDoor
