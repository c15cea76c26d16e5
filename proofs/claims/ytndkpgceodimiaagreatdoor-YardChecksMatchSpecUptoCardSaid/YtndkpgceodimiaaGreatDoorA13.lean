/-
  Part of the proof of statement 10
-/
import Derived.Test.YtndkpgceodimiaaGreatDoorA12
import Derived.Test.YtndkpgceodimiaaGreatDoorA06
set_option linter.unusedVariables false
set_option maxRecDepth 100000
set_option maxHeartbeats 16000000
namespace Go.Proofs.YtndkpgceodimiaaGreatDoor
open Go Go.Av Go.sK
attribute [local congr] aV aO aP aL aX aR aQ aH aY
attribute [local irreducible] FC bY eX
theorem LP (neg:Bool) {l:List Nat} (hl:SQ l) (H:aA):Sg 134 [.bool neg,.agg (wC l)] H (.ret (.agg (.bool false::.bool (neg&& !decide (l=zs))::wC l))) H:=by
 refine So aJj (by simp only[sf]) ?_ H;unfold aCw;dsimp only;cases neg<;>
 · simp only[↓zP,zG,Nat.reduceLT];refine Dz ?_;simp only[↓zP,zJ,Nat.reduceLT,Nat.reduceEqDiff,Nat.reduceAdd,zD,reduceCtorEq,Nat.reduceLeDiff,iL hl];exact⟨rfl,_,by simp only[↓zP,zR,Nat.reduceEqDiff,Nat.reduceAdd,iL hl];rfl,rfl⟩
theorem DY (H:aA):Sg 190 [] H (.ret (.agg EI)) H:=by refine So aXj (by simp only[sf]) ?_ H;unfold aMt;dsimp only;simp only[↓zP,zJ,Nat.reduceLT,Nat.reduceEqDiff,Nat.reduceAdd,Nat.reduceLeDiff];exact⟨rfl,_,by simp only[↓zP,zR,Nat.reduceEqDiff,Nat.reduceAdd];rfl,rfl⟩
theorem UQ (b n:Bool) {l:List Nat} (hl:SQ l) (H:aA):Sg 177 [.agg (.bool b::.bool n::wC l)] H (.ret (.bool (if b then decide (l=zs)&& !n else !decide (l=zs)|| !n))) H:=by
 refine So aJr (by simp only[sf]) ?_ H;unfold aDe;dsimp only;by_cases hz:l=zs<;>cases b<;>
 · simp only[↓zP,zJ,Nat.reduceLT,Nat.reduceEqDiff,Nat.reduceAdd,Nat.reduceLeDiff,iL hl,hz,Gn,Jl];exact⟨rfl,_,by simp only[↓zP,zR];rfl,rfl⟩
theorem RX {u:Nat} (h:u<2^64):AV.int .u32 ((bF u 0:Nat):Int)::AV.int .u32 ((bF u 1:Nat):Int)::((wC zs).drop 1).drop 1=wC (bC 16 u):=by have hk:∀k,2<=k->bF u k=0:=fun k hk=>RU (m:=2) (by simpa [W] using h) hk;simp[wC,zs,bC,List.range,List.range.loop,hk,List.replicate]
theorem GN {z:Int} (h0: -2^63<=z) (h1:z<2^63) (H:aA):Sg 95 [.int .i64 z] H (.ret (.agg (cI z))) H:=by
 refine So bGx (by simp only[sf]) ?_ H;unfold W95;dsimp only;have hu:z.natAbs<2^64:=by omega
 have l2:=RX hu;have hl:=SQ.bC z.natAbs;have e0:((z.natAbs%W:Nat):Int)=(bF z.natAbs 0:Nat):=by simp[bF]
 have e1:((z.natAbs / W%W:Nat):Int)=(bF z.natAbs 1:Nat):=by simp[bF]
 have fin:decide (bC 16 z.natAbs=zs)=decide (z=0):=by
  by_cases hz:z=0
  · subst hz;rfl
  rw[Ae hz,Ae];intro e;have :=iX (m:=16) (n:=z.natAbs) (Ci hu (by decide));rw[e,YR] at this;omega
 have fs:(decide (z<0)&& !decide (z=0))=decide (z<0):=by by_cases h:z<0<;>simp[h];omega
 simp only[↓zP,zJ,Nat.reduceLT,Nat.reduceEqDiff,Nat.reduceAdd,Nat.reduceLeDiff,Int.reduceLT];refine⟨fun aEv=>?_,fun aEv=>?_⟩
 · have w1:IntKind.u64.wrap z=((2^64 -z.natAbs:Nat):Int):=sE (by omega) (by omega);have w2:IntKind.u64.wrap (0 -((2^64 -z.natAbs:Nat):Int))=(z.natAbs:Int):=sE (by omega) (by omega);simp only[w1,w2,ZL,Nh,e0,e1,l2];refine bW (LP (decide (z<0)) hl _) ?_;simp only[↓zP,zJ,Nat.reduceEqDiff,Nat.reduceAdd,iL hl,fin,fs];exact⟨rfl,_,by simp only[↓zP,zR,Nat.reduceEqDiff,Nat.reduceAdd,iL hl];rfl,rfl⟩
 have w1:IntKind.u64.wrap z=(z.natAbs:Int):=sE (by omega) (by omega);simp only[w1,ZL,Nh,e0,e1,l2];refine bW (LP (decide (z<0)) hl _) ?_;simp only[↓zP,zJ,Nat.reduceEqDiff,Nat.reduceAdd,iL hl,fin,fs];exact⟨rfl,_,by simp only[↓zP,zR,Nat.reduceEqDiff,Nat.reduceAdd,iL hl];rfl,rfl⟩
theorem Zo (rs:List zL) (hlen:rs.length<2^30) (H:aA):Sg 119 [.aU 1 18 (rs.map zL.cells)] H (.ret (.bool (rs.all zL.Xn))) H:=by
 refine So aJf (by simp only[sf,dW jm]) ?_ H;unfold aCs;dsimp only;refine bQ ?_;simp only[↓zP,zG,Nat.reduceLT];refine bR ?_;refine aG fun K hK=>?_;refine bQ ?_;simp only[↓zP,zJ,Nat.reduceLT,Nat.reduceEqDiff];refine bR ?_;refine bO [] (fun i _ H=>(rs.take i).all zL.Xn=true) rs.length (by omega) (by decide) ?_ ?_ ?_ ?_ ?_
 · simp only[zB]
 · simp only[zB,Nat.reduceEqDiff,Ai]
 · rfl
 · intro i f H hi hk e1 hj;have hc:(rs.map zL.cells).getD i []=rs[i].cells:=eR hi;have hg:=aBz hi hj
   have hf:rs[i].Xn=false->rs.all zL.Xn=false:=fun h=>by rw[<-Fe,Aw];exact fun ha=>by rw[ha _ (Ac hi)] at h;cases h
   generalize rs[i]=r at hc hg hf;obtain⟨b,n,l,hl⟩:=r;simp only[zL.cells,zL.Xn,DG] at hc hg hf;refine aF ?_;cases b
   · simp only[↓zP,zJ,Nat.reduceLT,Nat.reduceEqDiff,Nat.reduceAdd,Nat.reduceLeDiff,e1,hk 5 rfl,aB,Ai,hi,hc,iL hl];refine bW (UQ false n hl _) ?_;by_cases hz:l=zs<;>cases n<;>
     · simp only[hz,Gn,Jl,Is,Gm,Fs,Bool.or_true,Bool.or_false,Bool.and_false] at hg;simp only[↓zP,zJ,Nat.reduceLT,Nat.reduceEqDiff,hz,Gn,Jl,Bool.or_true,Bool.or_false,hg]
       try
        refine⟨rfl,_,by simp only[↓zP,zR];rfl,?_⟩;rw[hf (by simp[hz])];rfl
   simp only[Is,Ke] at hg hf;simp only[↓zP,zJ,Nat.reduceLT,Nat.reduceEqDiff,Nat.reduceAdd,Nat.reduceLeDiff,e1,hk 5 rfl,aB,Ai,hi,hc,iL hl];refine⟨rfl,_,by simp only[↓zP,zR];rfl,?_⟩;rw[hf trivial];rfl
 intro f H hk hj;rw[Ao] at hj;simp only[↓zP];apply hK;simp only[↓zP,zG,Nat.reduceLT,hj];exact⟨rfl,_,by simp only[↓zP,zR];rfl,rfl⟩
end Go.Proofs.YtndkpgceodimiaaGreatDoor
