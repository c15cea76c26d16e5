/-
  Part of the proof of statement 12
-/
import Derived.Test.YtgggiembljfnhaaGreatDoorB12
import Derived.Test.YtgggiembljfnhaaGreatDoorB06
set_option linter.unusedVariables false
set_option linter.unusedSimpArgs false
set_option maxRecDepth 100000
set_option maxHeartbeats 16000000
namespace Go.Proofs.YtgggiembljfnhaaGreatDoor
open Go Go.Av Go.uE
attribute [local congr] aT aI aL aH aX aQ aM aF aY
attribute [local irreducible] FC bS eF
theorem Kr (neg:Bool) {l:List Nat} (hl:Rz l) (H:aA):Sg 167 [.bool neg,.agg (wC l)] H (.ret (.agg (.bool false::.bool (neg&& !decide (l=zs))::wC l))) H:=by
 refine So aKe Zag ?_ H;unfold aDg;dsimp only;cases neg<;>
 . refine Tz ?_;refine Dz ?_;simp only[↓zP,zJ,seval,zD,iL hl];exact⟨rfl,_,by simp only[↓zP,zR,seval,iL hl];rfl,rfl⟩
theorem EA (H:aA):Sg 223 [] H (.ret (.agg EI)) H:=by refine So aZl Zag ?_ H;unfold aOh;dsimp only;refine Ty ?_;exact⟨rfl,_,by simp only[↓zP,zR,seval];rfl,rfl⟩
theorem UC (b n:Bool) {l:List Nat} (hl:Rz l) (H:aA):Sg 219 [.agg (.bool b::.bool n::wC l)] H (.ret (.bool (if b then decide (l=zs)&& !n else !decide (l=zs)|| !n))) H:=by
 refine So aKm Zag ?_ H;unfold aDo;dsimp only;by_cases hz:l=zs<;>cases b<;>
 . simp only[↓zP,zJ,seval,iL hl,hz,Gm,Iv];exact Zab
theorem RG {u:Nat} (h:u<2^64):AV.int .u32 ((bL u 0:Nat):Int)::AV.int .u32 ((bL u 1:Nat):Int)::((wC zs).drop 1).drop 1=wC (bJ 16 u):=by have hk:∀k,2<=k->bL u k=0:=fun k hk=>RD (m:=2) (by simpa [W] using h) hk;simp[wC,zs,bJ,List.range,List.range.loop,hk,List.replicate]
theorem Mr {z:Int} (h0: -2^63<=z) (h1:z<2^63) (H:aA):Sg 128 [.int .i64 z] H (.ret (.agg (cI z))) H:=by
 refine So aXb Zag ?_ H;unfold aLy;dsimp only;have hu:z.natAbs<2^64:=by omega
 have l2:=RG hu;have hl:=Rz.bJ z.natAbs;have e0:((z.natAbs%W:Nat):Int)=(bL z.natAbs 0:Nat):=by simp[bL]
 have e1:((z.natAbs / W%W:Nat):Int)=(bL z.natAbs 1:Nat):=by simp[bL]
 have fin:decide (bJ 16 z.natAbs=zs)=decide (z=0):=by
  by_cases hz:z=0
  . subst hz;rfl
  rw[Ag hz,Ag];intro e;have :=jE (m:=16) (n:=z.natAbs) (De hu (by decide));rw[e,Xz] at this;omega
 have fs:(decide (z<0)&& !decide (z=0))=decide (z<0):=by by_cases h:z<0<;>simp[h];omega
 simp only[↓zP,zJ,Nat.reduceLT,Nat.reduceEqDiff,Nat.reduceAdd,Nat.reduceLeDiff,Int.reduceLT];refine⟨fun aFg=>?_,fun aFg=>?_⟩
 . have w1:IntKind.u64.wrap z=((2^64 -z.natAbs:Nat):Int):=rY (by omega) (by omega);have w2:IntKind.u64.wrap (0 -((2^64 -z.natAbs:Nat):Int))=(z.natAbs:Int):=rY (by omega) (by omega);simp only[w1,w2,Yy,Na,e0,e1,l2];exact ZaX
 have w1:IntKind.u64.wrap z=(z.natAbs:Int):=rY (by omega) (by omega);simp only[w1,Yy,Na,e0,e1,l2];exact ZaX
theorem ZZ (rs:List yZ) (hlen:rs.length<2^30) (H:aA):Sg 163 [.bD 1 18 (rs.map yZ.cells)] H (.ret (.bool (rs.all yZ.XW))) H:=by
 refine So aKc (by simp only[sf,eK jf]) ?_ H;unfold aDe;dsimp only;refine bQ ?_;refine Tz ?_;refine bR ?_;refine aN fun K hK=>?_;refine bQ ?_;refine Ty ?_;refine bR ?_;refine cV [] (fun i _ H=>(rs.take i).all yZ.XW=true) rs.length (by omega) (by decide) ?_ ?_ ?_ ?_ ?_
 . exact zq
 . simp only[zB,seval,Af]
 . rfl
 . intro i f H hi hk e1 hj;have hc:(rs.map yZ.cells).getD i []=rs[i].cells:=gK hi;have hg:=aCe hi hj
   have hf:rs[i].XW=false->rs.all yZ.XW=false:=fun h=>by rw[<-Ei,Aw];exact fun ha=>by rw[ha _ (Ac hi)] at h;cases h
   generalize rs[i]=r at hc hg hf;obtain⟨b,n,l,hl⟩:=r;simp only[yZ.cells,yZ.XW,DK] at hc hg hf;refine aJ ?_;cases b
   . simp only[↓zP,zJ,seval,e1,hk 5 rfl,aB,Af,hi,hc,iL hl];refine bY (UC false n hl _) ?_;by_cases hz:l=zs<;>cases n<;>
     . simp only[hz,Gm,Iv,Gw,Gb,Fb,Gf,Kl,Bool.and_false] at hg;simp only[↓zP,zJ,seval,hz,Gm,Iv,Gf,Kl,hg]
       try
        refine⟨rfl,_,by simp only[↓zP,zR,seval];rfl,?_⟩;rw[hf (by simp[hz])];rfl
   simp only[Gw,Je] at hg hf;simp only[↓zP,zJ,seval,e1,hk 5 rfl,aB,Af,hi,hc,iL hl];refine⟨rfl,_,by simp only[↓zP,zR,seval];rfl,?_⟩;rw[hf trivial];rfl
 intro f H hk hj;rw[Ax] at hj;refine Tx ?_;apply hK;simp only[↓zP,zG,seval,hj];exact Zab
end Go.Proofs.YtgggiembljfnhaaGreatDoor
