/-
  Part of the proof of statement 7
-/
import Derived.Test.YtogfcjbgeebfkaaGreatDoorA08
import Derived.Test.YtogfcjbgeebfkaaGreatDoorA06
set_option linter.unusedVariables false
set_option linter.unusedSimpArgs false
set_option maxRecDepth 100000
set_option maxHeartbeats 16000000
namespace Go.Proofs.YtogfcjbgeebfkaaGreatDoor
open Go Go.Av Go.lP
attribute [local congr] aY aS aV aQ bD aX aW aH bE
attribute [local irreducible] FC bT eX
theorem MF(neg:Bool){l:List Nat}(hl:TQ l)(H:aA):Sg 129 [.bool neg,.agg (wC l)] H (.ret (.agg (.bool false::.bool (neg&& !decide (l=zs))::wC l))) H:=by
 refine So aNe Zac ?_ H;unfold aGf;dsimp only;cases neg<;>
 . refine Tz ?_;refine Dz ?_;simp only[↓zP,zJ,seval,zD,iL hl];exact⟨rfl,_,by simp only[↓zP,zR,seval,iL hl];rfl,rfl⟩
theorem qB(H:aA):Sg 134 [] H (.ret (.agg uD)) H:=by refine So bAg Zac ?_ H;unfold aPa;dsimp only;refine Ty ?_;exact⟨rfl,_,by simp only[↓zP,zR,seval];rfl,rfl⟩
theorem OJ(b n:Bool){l:List Nat}(hl:TQ l)(H:aA):Sg 212 [.agg (.bool b::.bool n::wC l)] H (.ret (.bool (if b then decide (l=zs)&& !n else !decide (l=zs)|| !n))) H:=by
 refine So bBu Zac ?_ H;unfold aQo;dsimp only;by_cases hz:l=zs<;>cases b<;>
 . simp only[↓zP,zJ,seval,iL hl,hz,Fv,Hi];exact Zaa
theorem SX{u:Nat}(h:u<2^64):AV.int .u32 ((aJ u 0:Nat):Int)::AV.int .u32 ((aJ u 1:Nat):Int)::((wC zs).drop 1).drop 1=wC (aL 16 u):=by have hk:∀k,2<=k->aJ u k=0:=fun k hk=>xG (m:=2) (by simpa [W] using h) hk;simp[wC,zs,aL,List.range,List.range.loop,hk,List.replicate]
theorem tJ{z:Int}(h0: -2^63<=z)(h1:z<2^63)(H:aA):Sg 51 [.int .i64 z] H (.ret (.agg (cI z))) H:=by
 refine So bKc Zac ?_ H;unfold W51;dsimp only;have hu:z.natAbs<2^64:=by omega
 have l2:=SX hu;have hl:=TQ.aL z.natAbs;have e0:((z.natAbs%W:Nat):Int)=(aJ z.natAbs 0:Nat):=by simp[aJ]
 have e1:((z.natAbs / W%W:Nat):Int)=(aJ z.natAbs 1:Nat):=by simp[aJ]
 have fin:decide (aL 16 z.natAbs=zs)=decide (z=0):=by
  by_cases hz:z=0
  . subst hz;rfl
  rw[Ad hz,Ad];intro e;have :=eD (m:=16) (n:=z.natAbs) (Cm hu A1);rw[e,Zc] at this;omega
 have fs:(decide (z<0)&& !decide (z=0))=decide (z<0):=by by_cases h:z<0<;>simp[h];omega
 simp only[↓zP,zJ,Nat.reduceLT,Nat.reduceEqDiff,Nat.reduceAdd,Nat.reduceLeDiff,Int.reduceLT];refine⟨fun bIj=>?_,fun bIj=>?_⟩
 . have w1:IntKind.u64.wrap z=((2^64 -z.natAbs:Nat):Int):=gR A0 A0;have w2:IntKind.u64.wrap (0 -((2^64 -z.natAbs:Nat):Int))=(z.natAbs:Int):=gR A0 A0;simp only[w1,w2,AA,LQ,e0,e1,l2];exact ZaF
 have w1:IntKind.u64.wrap z=(z.natAbs:Int):=gR A0 A0;simp only[w1,AA,LQ,e0,e1,l2];exact ZaF
theorem ed(rs:List vH)(hlen:rs.length<2^30)(H:aA):Sg 133 [.bC 1 18 (rs.map vH.cells)] H (.ret (.bool (rs.all vH.Vu))) H:=by
 refine So bAf (by simp only[sf,dN oa]) ?_ H;unfold aOz;dsimp only;refine bX ?_;refine Tz ?_;refine bY ?_;refine aT fun K hK=>?_;refine bX ?_;refine Ty ?_;refine bY ?_;refine cC [] (fun i _ H=>(rs.take i).all vH.Vu=true) rs.length A0 A1 ?_ ?_ ?_ ?_ ?_
 . exact zq
 . simp only[zB,seval,Ai]
 . rfl
 . intro i f H hi hk e1 hj;have hc:(rs.map vH.cells).getD i []=rs[i].cells:=fB hi;have hg:=aEz hi hj
   have hf:rs[i].Vu=false->rs.all vH.Vu=false:=fun h=>by rw[<-Fs,Bg];exact fun ha=>by rw[ha _ (Ah hi)] at h;cases h
   generalize rs[i]=r at hc hg hf;obtain⟨b,n,l,hl⟩:=r;simp only[vH.cells,vH.Vu,BG] at hc hg hf;refine aP ?_;cases b
   . simp only[↓zP,zJ,seval,e1,hk 5 rfl,aG,Ai,hi,hc,iL hl];refine bO (OJ false n hl _) ?_;by_cases hz:l=zs<;>cases n<;>
     . simp only[hz,Fv,Hi,Ih,Fy,Kg,Bool.or_true,Lm,Bool.and_false] at hg;simp only[↓zP,zJ,seval,hz,Fv,Hi,Bool.or_true,Lm,hg]
       try
        refine⟨rfl,_,by simp only[↓zP,zR,seval];rfl,?_⟩;rw[hf (by simp[hz])];rfl
   simp only[Ih,Jx] at hg hf;simp only[↓zP,zJ,seval,e1,hk 5 rfl,aG,Ai,hi,hc,iL hl];refine⟨rfl,_,by simp only[↓zP,zR,seval];rfl,?_⟩;rw[hf trivial];rfl
 intro f H hk hj;rw[Ay] at hj;refine Tx ?_;apply hK;simp only[↓zP,zG,seval,hj];exact Zaa
end Go.Proofs.YtogfcjbgeebfkaaGreatDoor
