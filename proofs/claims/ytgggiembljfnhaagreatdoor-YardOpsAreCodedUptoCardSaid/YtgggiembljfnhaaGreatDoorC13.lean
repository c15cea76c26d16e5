/-
  Part of the proof of statement 14
-/
import Derived.Test.YtgggiembljfnhaaGreatDoorC12
import Derived.Test.YtgggiembljfnhaaGreatDoorC06
set_option linter.unusedVariables false
set_option linter.unusedSimpArgs false
set_option maxRecDepth 100000
set_option maxHeartbeats 16000000
namespace Go.Proofs.YtgggiembljfnhaaGreatDoor
open Go Go.Av Go.DL
attribute [local congr] aP aJ aK aH aU aM aL aD
attribute [local irreducible] FC bM dX
theorem EX (neg:Bool) {l:List Nat} (hl:RN l) (H:aA):Sound Tryz.prog gv 167 [.bool neg,.agg (wC l)] H (.ret (.agg (.bool false::.bool (neg&& !decide (l=zs))::wC l))) H:=by
 refine So ru (by simp only[sf]) ?_ H;unfold cp;dsimp only;cases neg<;>
 . simp only[↓zP,zG,seval];refine bK (by decide) ?_;simp only[↓zP,zG,seval,zD,reduceCtorEq,zI,iL hl];exact⟨rfl,_,by simp only[↓zP,zR,seval,iL hl];rfl,rfl⟩
theorem yM (H:aA):Sound Tryz.prog gv 223 [] H (.ret (.agg DS)) H:=by refine So aGv (by simp only[sf]) ?_ H;unfold xw;dsimp only;simp only[↓zP,zG,seval,zI];exact⟨rfl,_,by simp only[↓zP,zR,seval];rfl,rfl⟩
theorem Oo (b n:Bool) {l:List Nat} (hl:RN l) (H:aA):Sound Tryz.prog gv 219 [.agg (.bool b::.bool n::wC l)] H (.ret (.bool (if b then decide (l=zs)&& !n else !decide (l=zs)|| !n))) H:=by
 refine So sk (by simp only[sf]) ?_ H;unfold cy;dsimp only;by_cases hz:l=zs<;>cases b<;>
 . simp only[↓zP,zG,seval,zI,iL hl,hz,Gn,Il];exact⟨rfl,_,by simp only[↓zP,zR,seval];rfl,rfl⟩
theorem MT {u:Nat} (h:u<2^64):AV.int .u32 ((bG u 0:Nat):Int)::AV.int .u32 ((bG u 1:Nat):Int)::((wC zs).drop 1).drop 1=wC (aZ 16 u):=by have hk:∀k,2<=k->bG u k=0:=fun k hk=>MR (m:=2) (by simpa [W] using h) hk;simp[wC,zs,aZ,List.range,List.range.loop,hk,List.replicate]
theorem IQ {z:Int} (h0: -2^63<=z) (h1:z<2^63) (H:aA):Sound Tryz.prog gv 128 [.int .i64 z] H (.ret (.agg (cI z))) H:=by
 refine So aEz (by simp only[sf]) ?_ H;unfold ve;dsimp only;have hu:z.natAbs<2^64:=by omega
 have l2:=MT hu;have hl:=RN.aZ z.natAbs;have e0:((z.natAbs%W:Nat):Int)=(bG z.natAbs 0:Nat):=by simp[bG]
 have e1:((z.natAbs / W%W:Nat):Int)=(bG z.natAbs 1:Nat):=by simp[bG]
 have fin:decide (aZ 16 z.natAbs=zs)=decide (z=0):=by
  by_cases hz:z=0
  . subst hz;rfl
  rw[As hz,As];intro e;have :=pV (m:=16) (n:=z.natAbs) (Gr hu (by decide));rw[e,Sb] at this;omega
 have fs:(decide (z<0)&& !decide (z=0))=decide (z<0):=by by_cases h:z<0<;>simp[h];omega
 simp only[↓zP,zG,Nat.reduceLT,Nat.reduceEqDiff,Nat.reduceAdd,zI,Nat.reduceLeDiff,Int.reduceLT];refine⟨fun ic=>?_,fun ic=>?_⟩
 . have w1:IntKind.u64.wrap z=((2^64 -z.natAbs:Nat):Int):=pD (by omega) (by omega);have w2:IntKind.u64.wrap (0 -((2^64 -z.natAbs:Nat):Int))=(z.natAbs:Int):=pD (by omega) (by omega);simp only[w1,w2,TM,JR,e0,e1,l2];refine cT (EX (decide (z<0)) hl _) ?_;simp only[↓zP,zG,Nat.reduceEqDiff,Nat.reduceAdd,zI,iL hl,fin,fs];exact⟨rfl,_,by simp only[↓zP,zR,Nat.reduceEqDiff,Nat.reduceAdd,iL hl];rfl,rfl⟩
 have w1:IntKind.u64.wrap z=(z.natAbs:Int):=pD (by omega) (by omega);simp only[w1,TM,JR,e0,e1,l2];refine cT (EX (decide (z<0)) hl _) ?_;simp only[↓zP,zG,Nat.reduceEqDiff,Nat.reduceAdd,zI,iL hl,fin,fs];exact⟨rfl,_,by simp only[↓zP,zR,Nat.reduceEqDiff,Nat.reduceAdd,iL hl];rfl,rfl⟩
theorem Tl (rs:List uX) (hlen:rs.length<2^30) (H:aA):Sound Tryz.prog gv 163 [.bH 1 18 (rs.map uX.cells)] H (.ret (.bool (rs.all uX.SB))) H:=by
 refine So rp (by simp only[sf,jS Vb]) ?_ H;unfold cm;dsimp only;refine aB fun K hK=>?_;simp only[↓zP,zG,seval];apply hK;clear hK K;refine aB fun K hK=>?_;refine aB fun K2 bO=>?_;simp only[↓zP,zG,seval,zI];apply bO;clear bO K2;refine bV [] (fun i _ H=>(rs.take i).all uX.SB=true) rs.length (by omega) (by decide) ?_ ?_ ?_ ?_ ?_
 . simp only[zB,seval]
 . simp only[zB,seval,Ax]
 . rfl
 . intro i f H hi hk e1 hj;have hc:(rs.map uX.cells).getD i []=rs[i].cells:=sP hi;have hg:=Zi hi hj
   have hf:rs[i].SB=false->rs.all uX.SB=false:=fun h=>by rw[<-Ik,Bc];exact fun ha=>by rw[ha _ (Ap hi)] at h;cases h
   generalize rs[i]=r at hc hg hf;obtain⟨b,n,l,hl⟩:=r;simp only[uX.cells,uX.SB,MK] at hc hg hf;refine aS ?_;cases b
   . simp only[↓zP,zG,seval,zI,e1,hk 5 rfl,aQ,Ax,hi,hc,iL hl];refine cT (Oo false n hl _) ?_;by_cases hz:l=zs<;>cases n<;>
     . simp only[hz,Gn,Il,Fq,Ga,Gj,Hu,Ih,Ja] at hg;simp only[↓zP,zG,seval,zI,hz,Gn,Il,Hu,Ih,hg]
       try
        refine⟨rfl,_,by simp only[↓zP,zR,seval];rfl,?_⟩;rw[hf (by simp[hz])];rfl
   simp only[Fq,Bool.false_and] at hg hf;simp only[↓zP,zG,seval,zI,e1,hk 5 rfl,aQ,Ax,hi,hc,iL hl];refine⟨rfl,_,by simp only[↓zP,zR,seval];rfl,?_⟩;rw[hf trivial];rfl
 intro f H hk hj;rw[Bm] at hj;simp only[↓zP,seval];apply hK;simp only[↓zP,zG,seval,hj];exact⟨rfl,_,by simp only[↓zP,zR,seval];rfl,rfl⟩
end Go.Proofs.YtgggiembljfnhaaGreatDoor
