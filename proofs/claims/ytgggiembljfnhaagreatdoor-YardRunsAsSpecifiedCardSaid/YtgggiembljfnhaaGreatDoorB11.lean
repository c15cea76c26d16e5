/-
  Part of the proof of statement 12
-/
import Derived.Test.YtgggiembljfnhaaGreatDoorB09
import Derived.Test.YtgggiembljfnhaaGreatDoorB10
set_option linter.unusedVariables false
set_option linter.unusedSimpArgs false
set_option maxRecDepth 100000
set_option maxHeartbeats 16000000
namespace Go.Proofs.YtgggiembljfnhaaGreatDoor
open Go Go.Av Go.uE
attribute [local congr] aT aI aL aH aX aQ aM aF aY
attribute [local irreducible] FC bS eF
theorem IJ {z:Int} (h:z.natAbs<W^16):norm z=some z:=by unfold norm;rw[if_pos h]
theorem w63 {z:Int} (h:z.natAbs<=2^63):z.natAbs<W^16:=by
 have :(2:Nat)^63<W^16:=by decide
 omega
theorem bDl (a b c d:Nat):[[AV.int .i64 (a:Int)],[.int .i64 (b:Int)],[.int .i64 (c:Int)],[.int .i64 (d:Int)]]=nE [a,b,c,d]:=rfl
theorem DD4 {a b c d:Nat} (h:a<65536/\b<65536/\c<65536/\d<65536):DD [a,b,c,d]:=by
 intro x hx;simp only[Am,Bj,Df] at hx
 rcases hx with rfl|rfl|rfl|rfl
 . exact h.1
 . exact h.2.1
 . exact h.2.2.1
 exact h.2.2.2
theorem vI {z:Int} (h0: -2^63<=z) (h1:z<2^63) (H:aA):Sg 268 [.int .i64 z] H (.ret (.agg (cI z))) H:=by
 refine So bAr Zag ?_ H;unfold aPn;dsimp only
 have w:∀(n k:Nat),n<2^63->k≠0->IntKind.i64.wrap ((n:Int).tdiv k)=((n / k:Nat):Int):=fun n k hn hk=>by
  have h2:n / k<=n:=Js n k;have e:(n:Int).tdiv k=((n / k:Nat):Int):=by rw[Fz (by omega)];rfl
  rw[e];generalize n / k=q at *;exact wrap_i64 (by omega) (by omega)
 have m:∀(n k:Nat),(n:Int).tmod k=((n%k:Nat):Int):=fun n k=>by rw[Et (by omega)];rfl
 have all:∀n:Nat,n<2^63->((n:Int).tmod 65536=((n%65536:Nat):Int))/\(IntKind.i64.wrap ((n:Int).tdiv 65536)=((n / 65536:Nat):Int))/\(((n / 65536:Nat):Int).tmod 65536=((n / 65536%65536:Nat):Int))/\(IntKind.i64.wrap ((n:Int).tdiv 4294967296)=((n / 4294967296:Nat):Int))/\
  (((n / 4294967296:Nat):Int).tmod 65536=((n / 4294967296%65536:Nat):Int))/\(IntKind.i64.wrap ((n:Int).tdiv 281474976710656)=((n / 281474976710656:Nat):Int)):=fun n hn=>
  ⟨m n 65536,w n 65536 hn (by decide),m (n / 65536) 65536,w n 4294967296 hn (by decide),m (n / 4294967296) 65536,w n 281474976710656 hn (by decide)⟩
 by_cases hz:0<=z
 . obtain⟨n,rfl⟩:∃n:Nat,z=n:=⟨z.toNat,by omega⟩;have hn:n<2^63:=by omega
   have hd:decide ((n:Int)≥0)=true:=Aj (by omega);have hDD:DD [n%65536,n / 65536%65536,n / 4294967296%65536,n / 281474976710656]:=DD4 ⟨by omega,by omega,by omega,by omega⟩;have Sl:cS [n%65536,n / 65536%65536,n / 4294967296%65536,n / 281474976710656]=n:=(by simp only[cS];omega);have xl:=xY false 1 hDD (by simp);rw[Sl,IJ (by rw[lB];exact w63 (z:=n) (by omega))] at xl;simp only[↓zP,zJ,seval,hd,all n hn];rw[bDl];refine bY (xl _) ?_;simp only[cO,sg];refine Ty ?_;exact ZaQ
 obtain⟨n,rfl⟩:∃n:Nat,z= -((n:Int)+1):=⟨(-z -1).toNat,by omega⟩;have hn:n<2^63:=by omega
 have hd:decide (-((n:Int)+1)≥0)=false:=Ag (by omega);have b1:IntKind.i64.wrap (-((n:Int)+1)+1)= -(n:Int):=wI (by omega);have b2:IntKind.i64.wrap (0 - -(n:Int))=(n:Int):=wI (by omega);have hDD:DD [n%65536,n / 65536%65536,n / 4294967296%65536,n / 281474976710656]:=DD4 ⟨by omega,by omega,by omega,by omega⟩;have Sl:cS [n%65536,n / 65536%65536,n / 4294967296%65536,n / 281474976710656]=n:=by simp only[cS];omega
 have hD1:DD [1]:=fun d hd=>by rw[Cc] at hd;subst hd;decide
 have hp:=aBf hDD hD1 (by simp) (by simp) 1 1;rw[Sl,show cS [1]=1 from rfl] at hp
 have xl:=xY true 0 (GF (n+1)) (by
  have :=QX (k:=5) (n:=n+1) (by
   have :(2:Nat)^63<65536^5:=by decide
   omega)
  omega)
 rw[yH,IJ (by rw[lB];exact w63 (z:=(n+1:Nat)) (by omega))] at xl;simp only[↓zP,zJ,seval,hd,b1,b2,all n hn];rw[bDl,show [[AV.int .i64 1]]=nE [1] from rfl];refine bY (hp _) ?_;refine bY (xl _) ?_;rw[show sg true (n+1)= -((n:Int)+1) by simp[sg]];simp only[cO];refine Ty ?_;exact ZaQ
def di:Option Int->Int×Bool
 |some z=>if z.natAbs<2^62 then(z,true) else(0,false)
 |none=>(0,false)
theorem Yx {n:Nat} (h:n<W^16) (h1:bL n 1<1073741824) (h2:∀k,2<=k->k<16->bL n k=0):n<2^62/\n=bL n 1*4294967296+bL n 0:=by
 have hW:W=4294967296:=rfl;have h3:=OL (m:=2) h h2;have e1:bL n 1=n / 4294967296%4294967296:=by simp[bL,hW]
 have e0:bL n 0=n%4294967296:=by simp[bL,hW]
 have e2:W^2=18446744073709551616:=rfl;rw[e2] at h3;omega
theorem ow {n k:Nat} (hk:2<=k) (h:bL n k≠0):¬n<2^62:=by have h1:=ai h;have h2:W^2<=W^k:=Ds (by decide) hk;have e2:W^2=18446744073709551616:=rfl;omega
theorem aCm {n:Nat} (h:¬bL n 1<1073741824):¬n<2^62:=by
 have hW:W=4294967296:=rfl;have e1:bL n 1=n / 4294967296%4294967296:=by simp[bL,hW]
 omega
theorem Yw {p q n:Nat} (hp:p<1073741824) (hq:q<4294967296) (e:n=p*4294967296+q):IntKind.i64.wrap (p:Int)=p/\IntKind.i64.wrap ((p:Int)*4294967296)=(p:Int)*4294967296/\IntKind.i64.wrap (q:Int)=q/\IntKind.i64.wrap ((p:Int)*4294967296+(q:Int))=n/\IntKind.i64.wrap (0 -(n:Int))= -(n:Int):=by
 refine⟨wrap_i64 (by omega) (by omega),wrap_i64 (by omega) (by omega),wrap_i64 (by omega) (by omega),?_,?_⟩
 . rw[wrap_i64 (by omega) (by omega)];omega
 rw[wrap_i64 (by omega) (by omega)];omega
theorem Yf {z:Int} (hz:z.natAbs<W^16) (H:aA):Sg 342 [.agg (cI z)] H (.ret (.iA [.int .i64 (di (some z)).1,.bool (di (some z)).2])) H:=by
 refine So bCi Zav ?_ H;unfold aRa;dsimp only;have LR:=tW (mD.enc hz);have hl:=iL (.bJ z.natAbs);simp only[di];unfold cI at LR ⊢;have d1:decide (((bL z.natAbs 1:Nat):Int)≥1073741824)= !decide (bL z.natAbs 1<1073741824):=by rw[<-Jm,Bs];omega
 have hg:∀k,k<16->(AV.bool false::.bool (decide (z<0))::wC (bJ 16 z.natAbs)).getD (2+k) aD=.int .u32 (bL z.natAbs k:Nat):=fun k hk=>by rw[Kc2,uW (by rw[cW];exact hk),kR hk]
 have JI:(wC (bJ 16 z.natAbs)).getD 1 aD=.int .u32 (bL z.natAbs 1:Nat):=hg 1 (by decide);have we:(wC (bJ 16 z.natAbs)).getD 0 aD=.int .u32 (bL z.natAbs 0:Nat):=hg 0 (by decide);refine bQ ?_;refine Ty ?_;refine bR ?_;simp only[↓zP,zJ,seval,hl];refine bY (LR _) ?_;by_cases h1:bL z.natAbs 1<1073741824
 . have WJ:decide (((bL z.natAbs 1:Nat):Int)≥1073741824)=false:=by rw[d1];simp[h1]
   simp only[Bc];simp only[↓zP,zJ,seval,sT,hl,JI,WJ];refine bP [] (fun k vs H'=>H'=((⟨0,.nil⟩:aA).alloc (.cells (.bool false::.bool (decide (z<0))::wC (bJ 16 z.natAbs)) false))/\∀j,2<=j->j<k->bL z.natAbs j=0) 2 16 (by decide) (by decide) (by decide) ?_ ?_ ?_ ?_ ?_
   . exact zq
   . exact⟨rfl,fun j h1 h2=>by omega⟩
   . rintro i f H1 h0 hi hk e1 ⟨rfl,hj⟩;simp only[↓zP,zG,seval,e1];exact Zae
   . rintro i f H1 h0 hi hk e1 ⟨rfl,hj⟩;have f1:f 1=.ref 0 0:=hk 1 rfl;have EX:=hg i hi;have h2i:2+i<=17:=(by omega);refine aJ ?_;by_cases Pu:bL z.natAbs i=0
     . have hb:(((bL z.natAbs i:Nat):Int) != 0)=false:=(by rw[Pu];rfl);simp only[↓zP,zJ,seval,f1,e1,aB,hi,hl,EX,h2i,hb]
       exact⟨trivial,fun j h1 h2=>by
        by_cases e:j=i
        . subst e;exact Pu
        exact hj j h1 (by omega)⟩
     have hb:(((bL z.natAbs i:Nat):Int) != 0)=true:=(by rw[Dd];omega);simp only[↓zP,zJ,seval,f1,e1,aB,hi,hl,EX,h2i,hb];refine Rx ?_;rw[if_neg (ow h0 Pu)];rfl
   rintro f H1 hk ⟨rfl,hj⟩;have f1:f 1=.ref 0 0:=hk 1 rfl;obtain⟨fJ,Sl⟩:=Yx hz h1 hj;rw[if_pos fJ];have c0:bL z.natAbs 0<4294967296:=jU z.natAbs 0;obtain⟨w1,w2,w3,w4,w5⟩:=Yw h1 c0 Sl;by_cases hn:z<0
   . have d2:decide (z<0)=true:=Aj hn;simp only[↓zP,zJ,seval,f1,hl,JI,we,w1,w2,w3,w4,w5,d2];refine Rx ?_;rw[show -(z.natAbs:Int)=z by omega];rfl
   have d2:decide (z<0)=false:=Ag hn;simp only[↓zP,zJ,seval,f1,hl,JI,we,w1,w2,w3,w4,d2];refine Rx ?_;rw[show(z.natAbs:Int)=z by omega];rfl
 have WJ:decide (((bL z.natAbs 1:Nat):Int)≥1073741824)=true:=by rw[d1];simp[h1]
 simp only[Bc];simp only[↓zP,zJ,seval,sT,hl,JI,WJ];refine Rx ?_;rw[if_neg (aCm h1)];rfl
theorem rG {z:Int} (hz:z.natAbs<2^62) (H:aA):Sg 342 [.agg (cI z)] H (.ret (.iA [.int .i64 z,.bool true])) H:=by
 have :=Yf (z:=z) (w63 (by omega)) H
 rwa [di,if_pos hz] at this
end Go.Proofs.YtgggiembljfnhaaGreatDoor
