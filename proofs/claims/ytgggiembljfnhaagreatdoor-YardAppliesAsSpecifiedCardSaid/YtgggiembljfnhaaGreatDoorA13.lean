/-
  Part of the proof of statement 11
-/
import Derived.Test.YtgggiembljfnhaaGreatDoorA12
import Derived.Test.YtgggiembljfnhaaGreatDoorA06
set_option linter.unusedVariables false
set_option maxRecDepth 100000
set_option maxHeartbeats 16000000
namespace Go.Proofs.YtgggiembljfnhaaGreatDoor
open Go Go.Av Go.uG
attribute [local congr] aT aI aM aH aW aQ aN aF aX
attribute [local irreducible] FC bS eG
theorem Kq (neg:Bool) {l:List Nat} (hl:Rt l) (H:aA):Sg 167 [.bool neg,.agg (wC l)] H (.ret (.agg (.bool false::.bool (neg&& !decide (l=zs))::wC l))) H:=by
 refine So aJp Zah ?_ H;unfold aCs;dsimp only;cases neg<;>
 . refine Tz ?_;refine Dz ?_;simp only[↓zP,zJ,seval,zD,iL hl];exact⟨rfl,_,by simp only[↓zP,zR,seval,iL hl];rfl,rfl⟩
theorem EC (H:aA):Sg 223 [] H (.ret (.agg EK)) H:=by refine So aYu Zah ?_ H;unfold aNs;dsimp only;refine Ty ?_;exact⟨rfl,_,by simp only[↓zP,zR,seval];rfl,rfl⟩
theorem Tu (b n:Bool) {l:List Nat} (hl:Rt l) (H:aA):Sg 219 [.agg (.bool b::.bool n::wC l)] H (.ret (.bool (if b then decide (l=zs)&& !n else !decide (l=zs)|| !n))) H:=by
 refine So aJx Zah ?_ H;unfold aDa;dsimp only;by_cases hz:l=zs<;>cases b<;>
 . simp only[↓zP,zJ,seval,iL hl,hz,Gm,Iv];exact Zad
theorem RC {u:Nat} (h:u<2^64):AV.int .u32 ((bL u 0:Nat):Int)::AV.int .u32 ((bL u 1:Nat):Int)::((wC zs).drop 1).drop 1=wC (bJ 16 u):=by have hk:∀k,2<=k->bL u k=0:=fun k hk=>Qz (m:=2) (by simpa [W] using h) hk;simp[wC,zs,bJ,List.range,List.range.loop,hk,List.replicate]
theorem Mp {z:Int} (h0: -2^63<=z) (h1:z<2^63) (H:aA):Sg 128 [.int .i64 z] H (.ret (.agg (cI z))) H:=by
 refine So aWl Zah ?_ H;unfold aLj;dsimp only;have hu:z.natAbs<2^64:=by omega
 have l2:=RC hu;have hl:=Rt.bJ z.natAbs;have e0:((z.natAbs%W:Nat):Int)=(bL z.natAbs 0:Nat):=by simp[bL]
 have e1:((z.natAbs / W%W:Nat):Int)=(bL z.natAbs 1:Nat):=by simp[bL]
 have fin:decide (bJ 16 z.natAbs=zs)=decide (z=0):=by
  by_cases hz:z=0
  . subst hz;rfl
  rw[Ag hz,Ag];intro e;have :=jB (m:=16) (n:=z.natAbs) (Df hu (by decide));rw[e,Xu] at this;omega
 have fs:(decide (z<0)&& !decide (z=0))=decide (z<0):=by by_cases h:z<0<;>simp[h];omega
 simp only[↓zP,zJ,Nat.reduceLT,Nat.reduceEqDiff,Nat.reduceAdd,Nat.reduceLeDiff,Int.reduceLT];refine⟨fun aEr=>?_,fun aEr=>?_⟩
 . have w1:IntKind.u64.wrap z=((2^64 -z.natAbs:Nat):Int):=rW (by omega) (by omega);have w2:IntKind.u64.wrap (0 -((2^64 -z.natAbs:Nat):Int))=(z.natAbs:Int):=rW (by omega) (by omega);simp only[w1,w2,Yw,NW,e0,e1,l2];refine bZ (Kq (decide (z<0)) hl _) ?_;simp only[↓zP,zJ,Nat.reduceEqDiff,Nat.reduceAdd,iL hl,fin,fs];exact⟨rfl,_,by simp only[↓zP,zR,Nat.reduceEqDiff,Nat.reduceAdd,iL hl];rfl,rfl⟩
 have w1:IntKind.u64.wrap z=(z.natAbs:Int):=rW (by omega) (by omega);simp only[w1,Yw,NW,e0,e1,l2];refine bZ (Kq (decide (z<0)) hl _) ?_;simp only[↓zP,zJ,Nat.reduceEqDiff,Nat.reduceAdd,iL hl,fin,fs];exact⟨rfl,_,by simp only[↓zP,zR,Nat.reduceEqDiff,Nat.reduceAdd,iL hl];rfl,rfl⟩
theorem ZX (rs:List zF) (hlen:rs.length<2^30) (H:aA):Sg 163 [.bB 1 18 (rs.map zF.cells)] H (.ret (.bool (rs.all zF.XQ))) H:=by
 refine So aJn (by simp only[sf,eJ jc]) ?_ H;unfold aCq;dsimp only;refine bQ ?_;refine Tz ?_;refine bR ?_;refine aJ fun K hK=>?_;refine bQ ?_;refine Ty ?_;refine bR ?_;refine dD [] (fun i _ H=>(rs.take i).all zF.XQ=true) rs.length (by omega) (by decide) ?_ ?_ ?_ ?_ ?_
 . exact zq
 . simp only[zB,seval,Af]
 . rfl
 . intro i f H hi hk e1 hj;have hc:(rs.map zF.cells).getD i []=rs[i].cells:=gJ hi;have hg:=aBq hi hj
   have hf:rs[i].XQ=false->rs.all zF.XQ=false:=fun h=>by rw[<-Eh,Ax];exact fun ha=>by rw[ha _ (Ac hi)] at h;cases h
   generalize rs[i]=r at hc hg hf;obtain⟨b,n,l,hl⟩:=r;simp only[zF.cells,zF.XQ,DM] at hc hg hf;refine aL ?_;cases b
   . simp only[↓zP,zJ,seval,e1,hk 5 rfl,aB,Af,hi,hc,iL hl];refine bZ (Tu false n hl _) ?_;by_cases hz:l=zs<;>cases n<;>
     . simp only[hz,Gm,Iv,Gv,Gb,Fa,Gf,Ki,Bool.and_false] at hg;simp only[↓zP,zJ,seval,hz,Gm,Iv,Gf,Ki,hg]
       try
        refine⟨rfl,_,by simp only[↓zP,zR,seval];rfl,?_⟩;rw[hf (by simp[hz])];rfl
   simp only[Gv,Jd] at hg hf;simp only[↓zP,zJ,seval,e1,hk 5 rfl,aB,Af,hi,hc,iL hl];refine⟨rfl,_,by simp only[↓zP,zR,seval];rfl,?_⟩;rw[hf trivial];rfl
 intro f H hk hj;rw[Ay] at hj;refine Tx ?_;apply hK;simp only[↓zP,zG,seval,hj];exact Zad
end Go.Proofs.YtgggiembljfnhaaGreatDoor
