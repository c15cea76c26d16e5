/-
  Part of the proof of statement 9
-/
import Derived.Test.YtogfcjbgeebfkaaGreatDoorA08
import Derived.Test.YtogfcjbgeebfkaaGreatDoorA06
set_option linter.unusedSimpArgs false
set_option linter.unusedVariables false
set_option maxRecDepth 100000
set_option maxHeartbeats 16000000
namespace Go.Proofs.YtogfcjbgeebfkaaGreatDoor
open Go Go.Av Go.jG
attribute [local congr] aX aQ aR aL bA aW aS aG bB
attribute [local irreducible] FC bT eI
theorem Nf(neg:Bool){l:List Nat}(U:UZ l)(H:aA):Sg 129 [.bool neg,.agg (wC l)] H (.ret (.agg (.bool false::.bool (neg&& !decide (l=zs))::wC l))) H:=by
 refine So aSm Zac ?_ H;unfold aLc;dsimp only;cases neg<;>
 . refine Tz ?_;refine Dz ?_;simp only[↓zP,zJ,seval,zD,iL U];exact⟨rfl,_,by simp only[↓zP,zR,seval,iL U];rfl,rfl⟩
theorem tV(H:aA):Sg 134 [] H (.ret (.agg yA)) H:=by refine So bGz Zac ?_ H;unfold aUx;dsimp only;refine Ty ?_;exact⟨rfl,_,by simp only[↓zP,zR,seval];rfl,rfl⟩
theorem Wq(b n:Bool){l:List Nat}(U:UZ l)(H:aA):Sg 212 [.agg (.bool b::.bool n::wC l)] H (.ret (.bool (if b then decide (l=zs)&& !n else !decide (l=zs)|| !n))) H:=by
 refine So bIm Zac ?_ H;unfold aWh;dsimp only;by_cases s:l=zs<;>cases b<;>
 . simp only[↓zP,zJ,seval,iL U,s,Gw,Iw];exact Zaa
theorem Tg{u:Nat}(h:u<2^64):AV.int .u32 ((aP u 0:Nat):Int)::AV.int .u32 ((aP u 1:Nat):Int)::((wC zs).drop 1).drop 1=wC (aV 16 u):=by have E:∀k,2<=k->aP u k=0:=fun k E=>AE (m:=2) (by simpa [W] using h) E;simp[wC,zs,aV,List.range,List.range.loop,E,List.replicate]
theorem qN{z:Int}(o: -2^63<=z)(O:z<2^63)(H:aA):Sg 51 [.int .i64 z] H (.ret (.agg (cI z))) H:=by
 refine So bQm Zac ?_ H;unfold W51;dsimp only;have K:z.natAbs<2^64:=by omega
 have B:=Tg K;have U:=UZ.aV z.natAbs;have Y:((z.natAbs%W:Nat):Int)=(aP z.natAbs 0:Nat):=by simp[aP]
 have T:((z.natAbs / W%W:Nat):Int)=(aP z.natAbs 1:Nat):=by simp[aP]
 have y:decide (aV 16 z.natAbs=zs)=decide (z=0):=by
  by_cases s:z=0
  . subst s;rfl
  rw[Ab s,Ab];intro e;have :=fS (m:=16) (n:=z.natAbs) (Bt K A1);rw[e,aHn] at this;omega
 have fs:(decide (z<0)&& !decide (z=0))=decide (z<0):=by by_cases h:z<0<;>simp[h];omega
 simp only[↓zP,zJ,Nat.reduceLT,Nat.reduceEqDiff,Nat.reduceAdd,Nat.reduceLeDiff,Int.reduceLT];refine⟨fun a=>?_,fun a=>?_⟩
 . have w1:IntKind.u64.wrap z=((2^64 -z.natAbs:Nat):Int):=jE A0 A0;have w2:IntKind.u64.wrap (0 -((2^64 -z.natAbs:Nat):Int))=(z.natAbs:Int):=jE A0 A0;simp only[w1,w2,CY,NC,Y,T,B];exact ZaB
 have w1:IntKind.u64.wrap z=(z.natAbs:Int):=jE A0 A0;simp only[w1,CY,NC,Y,T,B];exact ZaB
theorem nc(X:List xY)(Q:X.length<2^30)(H:aA):Sg 133 [.bJ 1 18 (X.map xY.cells)] H (.ret (.bool (X.all xY.Xl))) H:=by
 refine So bGy (by simp only[sf,dP xt]) ?_ H;unfold aUw;dsimp only;refine bP ?_;refine Tz ?_;refine bQ ?_;refine aM fun K hK=>?_;refine bP ?_;refine Ty ?_;refine bQ ?_;refine bS [] (fun i _ H=>(X.take i).all xY.Xl=true) X.length A0 A1 ?_ ?_ ?_ ?_ ?_
 . exact zq
 . simp only[zB,seval,Ah]
 . rfl
 . intro i f H F E T Y;have R:(X.map xY.cells).getD i []=X[i].cells:=eO F;have t:=aJw F Y
   have N:X[i].Xl=false->X.all xY.Xl=false:=fun h=>by rw[<-Ew,Bh];exact fun I=>by rw[I _ (Ac F)] at h;cases h
   generalize X[i]=r at R t N;obtain⟨b,n,l,U⟩:=r;simp only[xY.cells,xY.Xl,EB] at R t N;refine aJ ?_;cases b
   . simp only[↓zP,zJ,seval,T,E 5 rfl,aD,Ah,F,R,iL U];refine fC (Wq false n U _) ?_;by_cases s:l=zs<;>cases n<;>
     . simp only[s,Gw,Iw,Ge,Ey,Jt,Bool.or_true,Ld,Bool.and_false] at t;simp only[↓zP,zJ,seval,s,Gw,Iw,Bool.or_true,Ld,t]
       try
        refine⟨rfl,_,by simp only[↓zP,zR,seval];rfl,?_⟩;rw[N (by simp[s])];rfl
   simp only[Ge,Bool.false_and] at t N;simp only[↓zP,zJ,seval,T,E 5 rfl,aD,Ah,F,R,iL U];refine⟨rfl,_,by simp only[↓zP,zR,seval];rfl,?_⟩;rw[N trivial];rfl
 intro f H E Y;rw[Aq] at Y;refine Tx ?_;apply hK;simp only[↓zP,zG,seval,Y];exact Zaa
end Go.Proofs.YtogfcjbgeebfkaaGreatDoor
