/-
  Part of the proof of statement 13
-/
import Derived.Test.YtogfcjbgeebfkaaGreatDoorB08
import Derived.Test.YtogfcjbgeebfkaaGreatDoorB06
set_option linter.unusedSimpArgs false
set_option linter.unusedVariables false
set_option maxRecDepth 100000
set_option maxHeartbeats 16000000
namespace Go.Proofs.YtogfcjbgeebfkaaGreatDoor
open Go Go.Av Go.iW
attribute [local congr] aZ aQ aR aL bD aU aS aG bE
attribute [local irreducible] FC bS eE
theorem NK(neg:Bool){l:List Nat}(U:UQ l)(H:aB):Sg 129 [.bool neg,.agg (wC l)] H (.ret (.agg (.bool false::.bool (neg&& !decide (l=zs))::wC l))) H:=by
 refine So aRz Zad ?_ H;unfold aKn;dsimp only;cases neg<;>
 . refine Tz ?_;refine Dz ?_;simp only[↓zP,zJ,seval,zD,iL U];exact⟨rfl,_,by simp only[↓zP,zR,seval,iL U];rfl,rfl⟩
theorem tD(H:aB):Sg 134 [] H (.ret (.agg xH)) H:=by refine So bGs Zad ?_ H;unfold aUk;dsimp only;refine Ty ?_;exact⟨rfl,_,by simp only[↓zP,zR,seval];rfl,rfl⟩
theorem We(b n:Bool){l:List Nat}(U:UQ l)(H:aB):Sg 212 [.agg (.bool b::.bool n::wC l)] H (.ret (.bool (if b then decide (l=zs)&& !n else !decide (l=zs)|| !n))) H:=by
 refine So bIg Zad ?_ H;unfold aVx;dsimp only;by_cases s:l=zs<;>cases b<;>
 . simp only[↓zP,zJ,seval,iL U,s,Gy,decide_false];exact Zaa
theorem TV{u:Nat}(h:u<2^64):AV.int .u32 ((aT u 0:Nat):Int)::AV.int .u32 ((aT u 1:Nat):Int)::((wC zs).drop 1).drop 1=wC (aV 16 u):=by have E:∀k,2<=k->aT u k=0:=fun k E=>zK (m:=2) (by simpa [W] using h) E;simp[wC,zs,aV,List.range,List.range.loop,E,List.replicate]
theorem uP{z:Int}(G: -2^63<=z)(O:z<2^63)(H:aB):Sg 51 [.int .i64 z] H (.ret (.agg (cI z))) H:=by
 refine So bQx Zad ?_ H;unfold W51;dsimp only;have B:z.natAbs<2^64:=by omega
 have b:=TV B;have U:=UQ.aV z.natAbs;have Y:((z.natAbs%W:Nat):Int)=(aT z.natAbs 0:Nat):=by simp[aT]
 have T:((z.natAbs / W%W:Nat):Int)=(aT z.natAbs 1:Nat):=by simp[aT]
 have p:decide (aV 16 z.natAbs=zs)=decide (z=0):=by
  by_cases s:z=0
  . subst s;rfl
  rw[Ac s,Ac];intro e;have :=fP (m:=16) (n:=z.natAbs) (Cx B A1);rw[e,aGv] at this;omega
 have fs:(decide (z<0)&& !decide (z=0))=decide (z<0):=by by_cases h:z<0<;>simp[h];omega
 simp only[↓zP,zJ,Nat.reduceLT,Nat.reduceEqDiff,Nat.reduceAdd,Nat.reduceLeDiff,Int.reduceLT];refine⟨fun a=>?_,fun a=>?_⟩
 . have w1:IntKind.u64.wrap z=((2^64 -z.natAbs:Nat):Int):=jA A0 A0;have w2:IntKind.u64.wrap (0 -((2^64 -z.natAbs:Nat):Int))=(z.natAbs:Int):=jA A0 A0;simp only[w1,w2,CB,Mf,Y,T,b];exact Zaz
 have w1:IntKind.u64.wrap z=(z.natAbs:Int):=jA A0 A0;simp only[w1,CB,Mf,Y,T,b];exact Zaz
theorem lk(W:List xE)(Q:W.length<2^30)(H:aB):Sg 133 [.bK 1 18 (W.map xE.cells)] H (.ret (.bool (W.all xE.XV))) H:=by
 refine So bGr (by simp only[sf,dQ xd]) ?_ H;unfold aUj;dsimp only;refine bP ?_;refine Tz ?_;refine bQ ?_;refine aP fun K hK=>?_;refine bP ?_;refine Ty ?_;refine bQ ?_;refine bR [] (fun i _ H=>(W.take i).all xE.XV=true) W.length A0 A1 ?_ ?_ ?_ ?_ ?_
 . exact zq
 . simp only[zB,seval,Ah]
 . rfl
 . intro i f H F E T Y;have R:(W.map xE.cells).getD i []=W[i].cells:=fT F;have d:=aJf F Y
   have N:W[i].XV=false->W.all xE.XV=false:=fun h=>by rw[<-Fx,Bi];exact fun I=>by rw[I _ (Ag F)] at h;cases h
   generalize W[i]=r at R d N;obtain⟨b,n,l,U⟩:=r;simp only[xE.cells,xE.XV,GS] at R d N;refine aM ?_;cases b
   . simp only[↓zP,zJ,seval,T,E 5 rfl,aI,Ah,F,R,iL U];refine eI (We false n U _) ?_;by_cases s:l=zs<;>cases n<;>
     . simp only[s,Gy,decide_false,Gg,Fl,Ig,Bool.or_true,Lc,Bool.and_false] at d;simp only[↓zP,zJ,seval,s,Gy,decide_false,Bool.or_true,Lc,d]
       try
        refine⟨rfl,_,by simp only[↓zP,zR,seval];rfl,?_⟩;rw[N (by simp[s])];rfl
   simp only[Gg,Bool.false_and] at d N;simp only[↓zP,zJ,seval,T,E 5 rfl,aI,Ah,F,R,iL U];refine⟨rfl,_,by simp only[↓zP,zR,seval];rfl,?_⟩;rw[N trivial];rfl
 intro f H E Y;rw[Ap] at Y;refine Tx ?_;apply hK;simp only[↓zP,zG,seval,Y];exact Zaa
end Go.Proofs.YtogfcjbgeebfkaaGreatDoor
