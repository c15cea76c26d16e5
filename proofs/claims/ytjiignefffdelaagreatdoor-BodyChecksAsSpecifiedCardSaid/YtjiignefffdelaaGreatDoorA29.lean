/-
  Parts of the proof of statement 4: Kc, Kd, Ke, Kf
-/
import Derived.Test.YtjiignefffdelaaGreatDoorA28
import Derived.Test.YtjiignefffdelaaGreatDoorA25
import Derived.Test.YtjiignefffdelaaGreatDoorA21
set_option linter.unusedVariables false
set_option maxRecDepth 100000
set_option maxHeartbeats 16000000
namespace Go.Proofs.YtjiignefffdelaaGreatDoor
open Go Go.Av Go.Num
attribute [local congr] aU aN aO aM aW aR aP aL
attribute [local irreducible] FC FOps FD2
theorem qN (a:Nat) (H:Heap):Sound Tryz.prog gv 121 [.agg (wC (limbs 16 a))] H (.ret (.int .i64 (sz a:Nat))) H:=by
 refine Sp aYi (by simp only[sf]) (by simp only[sf]) ?_ H;unfold W121;dsimp only;have la:=iL (.limbs a);simp only[↓zP,zG,Nat.reduceLT,zI];refine aI (dM [3] (fun m vs H'=>vs=[.int .i64 (m:Nat)]∧m≤16∧szF m a=sz a∧H'.get 0=some (.cells (wC (limbs 16 a)) false)) 16 (by rfl) ?_ ?_)
 · refine⟨by simp only[sm,aC];rfl,by omega,rfl,by simp only[zI]⟩
 · rintro m f H hk ⟨hv,hm,hd,g0⟩
   simp only[sm,List.cons.injEq,and_true] at hv;simp only[↓zP,zG,Nat.reduceLT,Nat.reduceEqDiff,zI,hv]
   cases m with
   |zero=>
    simp only[zG,zI,show decide (((0:Nat):Int)>0)=false from rfl];refine⟨rfl,_,by simp only[↓zP,zR];rfl,?_⟩;rw[←hd];rfl
   |succ m=>
    have w:IntKind.i64.wrap (((m+1:Nat):Int) -1)=(m:Nat):=by rw[wrap_i64 (by omega) (by omega)];omega
    simp only[↓zP,zG,Nat.reduceEqDiff,zI,show decide (((m+1:Nat):Int)>0)=true from decide_eq_true (by omega),hk 1 rfl,w,aD,g0,show m<16 by omega,show m+1≤16 by omega,la,dS (show m<16 by omega)];by_cases hz:limb a m=0
    · simp only[zG,hz,show(((0:Nat):Int)==0)=true from rfl]
      refine aI ?_;simp only[↓zP,zG,Nat.reduceLT,Nat.reduceEqDiff,hv,w];refine⟨m,by omega,rfl,by omega,by rw[←hd,szF,if_pos hz],g0⟩
    · have hb:(((limb a m:Nat):Int)==0)=false:=by simp;omega
      simp only[zG,hb];refine⟨rfl,_,by simp only[↓zP,zR];rfl,?_⟩;rw[←hd,szF,if_neg hz];rfl
theorem pU:∀b:Nat,b<256→([0,1,2,2,3,3,3,3,4,4,4,4,4,4,4,4,5,5,5,5,5,5,5,5,5,5,5,5,5,5,5,5,6,6,6,6,6,6,6,6,6,6,6,6,6,6,6,6,6,6,6,6,6,6,6,6,6,6,6,6,6,6,6,6,7,7,7,7,7,7,7,7,7,7,7,7,7,7,7,7,7,7,7,7,7,7,7,7,7,7,7,7,7,7,7,7,7,7,7,7,7,7,7,7,7,7,7,7,7,7,7,7,7,7,7,7,7,7,7,7,7,7,7,7,7,7,7,7,8,8,8,8,8,8,8,8,8,8,8,8,8,8,8,8,8,8,8,8,8,8,8,8,8,8,8,8,8,8,8,8,8,8,8,8,8,8,8,8,8,8,8,8,8,8,8,8,8,8,8,8,8,8,8,8,8,8,8,8,8,8,8,8,8,8,8,8,8,8,8,8,8,8,8,8,8,8,8,8,8,8,8,8,8,8,8,8,8,8,8,8,8,8,8,8,8,8,8,8,8,8,8,8,8,8,8,8,8,8,8,8,8,8,8,8,8,8,8,8,8,8,8,8,8,8,8,8]:List UInt8)[b]?=some (UInt8.ofNat (bitlen b)):=by decide+kernel
theorem aTv (u k:Nat) (kk:IntKind) (hk:k≤kk.bits):(u:Int).fdiv (2^min (Int.toNat k) kk.bits)=((u / 2^k:Nat):Int):=by
 rw[show min (Int.toNat k) kk.bits=k by simp;omega,Int.fdiv_eq_ediv_of_nonneg _ (by exact_mod_cast Nat.zero_le _)];simp
theorem sX {b n:Nat} (hb:b<256) (hn:n≤24):IntKind.i64.wrap ((n:Int)+IntKind.i64.wrap ((UInt8.ofNat (bitlen b)).toNat:Int))=((n+bitlen b:Nat):Int):=by
 have h1:bitlen b≤8:=eU.2 hb
 have h2:(UInt8.ofNat (bitlen b)).toNat=bitlen b:=by simp;omega
 have h3:IntKind.i64.wrap ((bitlen b:Nat):Int)=(bitlen b:Nat):=wrap_i64 (by omega) (by omega);rw[h2,h3,wrap_i64 (by omega) (by omega)];simp
theorem wu8 {b:Nat} (hb:b<256):IntKind.u8.wrap (b:Int)=(b:Int):=by
 simp only[IntKind.wrap,IntKind.bits,IntKind.signed];simp;omega
theorem aNa {a:Nat} (ha:a<W) (H:Heap):Sound Tryz.prog gv 181 [.int .u32 a] H (.ret (.int .i64 (bitlen a:Nat))) H:=by
 refine Sp aZx (by simp only[sf]) (by simp only[sf]) ?_ H;unfold W181;dsimp only;have hW:W=4294967296:=rfl;simp only[↓zP,zG,Nat.reduceLT,Nat.reduceEqDiff,zI,Int.reduceLT];have f16:∀u:Nat,(u:Int).fdiv (2^min (Int.toNat 16) IntKind.u32.bits)=((u / 2^16:Nat):Int):=fun u=>aTv u 16 .u32 (by decide);have f8:∀u:Nat,(u:Int).fdiv (2^min (Int.toNat 8) IntKind.u32.bits)=((u / 2^8:Nat):Int):=fun u=>aTv u 8 .u32 (by decide)
 have w24:IntKind.i64.wrap (16+8)=((24:Nat):Int):=by decide
 have w8:IntKind.i64.wrap (0+8)=((8:Nat):Int):=by decide
 refine⟨fun h=>?_,fun h=>?_⟩
 · simp only[f16]
   refine⟨fun h2=>?_,fun h2=>?_⟩
   · have hb:a / 2^16 / 2^8<256:=by omega
     simp only[↓zP,zG,zI,f8,wu8 hb,aD,pU _ hb,w24,sX hb (show 24≤24 by omega)];refine⟨rfl,_,by simp only[↓zP,zR];rfl,?_⟩
     have e:bitlen a=24+bitlen (a / 2^16 / 2^8):=by
      rw[Nat.div_div_eq_div_mul,←Nat.pow_add,gJ (k:=16+8) (by omega)];omega
     rw[e];rfl
   · have hb:a / 2^16<256:=by omega
     have :=sX hb (show 16≤24 by omega);simp only[↓zP,zG,zI,wu8 hb,aD,pU _ hb];refine⟨rfl,_,by simp only[↓zP,zR];rfl,?_⟩
     have e:bitlen a=16+bitlen (a / 2^16):=by rw[gJ (k:=16) (by omega)];omega
     rw[e,←this];rfl
 · refine⟨fun h2=>?_,fun h2=>?_⟩
   · have hb:a / 2^8<256:=by omega
     simp only[↓zP,zG,zI,f8,wu8 hb,aD,pU _ hb,w8,sX hb (show 8≤24 by omega)];refine⟨rfl,_,by simp only[↓zP,zR];rfl,?_⟩
     have e:bitlen a=8+bitlen (a / 2^8):=by rw[gJ (k:=8) (by omega)];omega
     rw[e];rfl
   · have hb:a<256:=by omega
     have :=sX hb (show 0≤24 by omega);simp only[↓zP,zG,zI,wu8 hb,aD,pU _ hb];refine⟨rfl,_,by simp only[↓zP,zR];rfl,?_⟩;rw[Nat.zero_add] at this;rw[←this];rfl
theorem aTw {α:Type} (a b d:α) (l:List α) (k:Nat):(a::b::l).getD (2+k) d=l.getD k d:=by
 rw[Nat.add_comm];rfl
def bitsO:Option Int→Nat
 |some z=>bitlen z.natAbs
 |none=>0
theorem aQn {a:List AV} {x:Option Int} (ha:IsI a x) (H:Heap):Sound Tryz.prog gv 130 [.agg a] H (.ret (.int .i64 (bitsO x:Nat))) H:=by
 refine Sp aYo (by simp only[sf,ha.free]) (by simp only[sf]) ?_ H;unfold W130;dsimp only;obtain⟨r,rfl,hx,-⟩:=ha.raw;have hr:=aIg r.hl;have lr:=rG r.hl;have hs:=qN (ofL r.l);rw[lr] at hs;have hgd:=gW ha;rw[show r.cells=.bool r.b::.bool r.n::wC r.l from rfl] at hgd;simp only[↓zP,zG,Nat.reduceLT,Nat.reduceEqDiff,Nat.reduceAdd,zI,RawI.cells,iL r.hl];refine bF (hs _) ?_;simp only[↓zP,zG,Nat.reduceLT,Nat.reduceEqDiff,Nat.reduceAdd,zI,iL r.hl];refine bF (hgd _) ?_
 cases x with
 |none=>
  simp only[↓zP,zG,Nat.reduceLT,Nat.reduceEqDiff,zI,Option.isSome_none];exact⟨rfl,_,by simp only[↓zP,zR];rfl,rfl⟩
 |some z=>
  have hz:=ha.fit;obtain⟨hb,hn,hl,-⟩:=yO r.hl hx.symm
  have ez:ofL r.l=z.natAbs:=by rw[hl,cU hz]
  rw[ez];by_cases h0:sz z.natAbs=0
  · simp only[↓zP,zG,Nat.reduceLT,Nat.reduceEqDiff,zI,Option.isSome_some,h0,show(((0:Nat):Int)==0)=true from rfl]
    refine⟨rfl,_,by simp only[↓zP,zR];rfl,?_⟩;rw[bitsO,(aTg hz).1 h0];rfl
  · have hb:(((sz z.natAbs:Nat):Int)==0)=false:=by simp;omega
    have l16:=aQb z.natAbs
    have w1:IntKind.i64.wrap (((sz z.natAbs:Nat):Int) -1)=((sz z.natAbs -1:Nat):Int):=by rw[wrap_i64 (by omega) (by omega)];omega
    have w2:IntKind.i64.wrap (32*((sz z.natAbs -1:Nat):Int))=((32*(sz z.natAbs -1):Nat):Int):=by rw[wrap_i64 (by omega) (by omega)];simp
    have hg:(wC r.l).getD (sz z.natAbs -1) undefA=.int .u32 (limb z.natAbs (sz z.natAbs -1)):=by rw[hl,dS (by omega)]
    have hbl:bitlen (limb z.natAbs (sz z.natAbs -1))≤32:=eU.2 (dC _ _)
    have w3:IntKind.i64.wrap (((32*(sz z.natAbs -1):Nat):Int)+(bitlen (limb z.natAbs (sz z.natAbs -1)):Nat))=((bitlen z.natAbs:Nat):Int):=by
     rw[wrap_i64 (by omega) (by omega),aJw hz h0];simp
    simp only[↓zP,zG,Nat.reduceLT,Nat.reduceEqDiff,Nat.reduceAdd,zI,Nat.reduceLeDiff,Option.isSome_some,hb,w1,w2,aD,show sz z.natAbs -1<16 by omega,show 2+(sz z.natAbs -1)≤17 by omega,iL r.hl,aTw,hg];refine bF (aNa (dC z.natAbs (sz z.natAbs -1)) _) ?_;simp only[↓zP,zG,Nat.reduceLT,Nat.reduceEqDiff,zI,w3];exact⟨rfl,_,by simp only[↓zP,zR];rfl,rfl⟩
def smallO:Option Int→Int×Bool
 |some z=>if -2^63≤z∧z<2^63 then(z,true) else(0,false)
 |none=>(0,false)
theorem aWw {a b:Nat} (ha:a<4294967296) (hb:b<4294967296):bitsI .or .u64 (IntKind.u64.wrap (((a:Nat):Int)*2^(min (Int.toNat 32) IntKind.u64.bits))) ((b:Nat):Int)=some (.int .u64 ((a*4294967296+b:Nat):Int)):=by
 have e:IntKind.u64.wrap (((a:Nat):Int)*2^(min (Int.toNat 32) IntKind.u64.bits))=((a*4294967296:Nat):Int):=by
  show IntKind.u64.wrap (((a:Nat):Int)*4294967296)=_;exact gH (by omega) (by omega)
 rw[e]
 have e2:(a*4294967296|||b)=a*4294967296+b:=by
  have :=Nat.two_pow_add_eq_or_of_lt (i:=32) hb a;rw[Nat.mul_comm] at this;exact this.symm
 have e3:∀n:Nat,BitVec.ofInt 64 (n:Int)=BitVec.ofNat 64 n:=fun n=>by simp
 simp only[bitsI];congr 2;rw[show IntKind.u64.bits=64 from rfl,e3,e3,←BitVec.ofNat_or,e2,BitVec.toNat_ofNat,Nat.mod_eq_of_lt (by omega)];exact gH (by omega) (.inl rfl)
theorem oX {a:List AV} {x:Option Int} (ha:IsI a x) (H:Heap):Sound Tryz.prog gv 83 [.agg a] H (.ret (.tup [.int .i64 (smallO x).1,.bool (smallO x).2])) H:=by
 refine Sp bFa (by simp only[sf,ha.free]) (by simp only[sf]) ?_ H;unfold W83;dsimp only;simp only[↓zP,zG,Nat.reduceLT,Nat.reduceEqDiff,zI,oL ha.len];refine bF (gW ha _) ?_
 cases x with
 |none=>
  simp only[↓zP,zG,Nat.reduceLT,Nat.reduceEqDiff,zI,Option.isSome_none];exact⟨rfl,_,by simp only[↓zP,zR,Nat.reduceEqDiff];rfl,rfl⟩
 |some z=>
  obtain⟨rfl,hz⟩:=ha.some;have la:=iL (.limbs z.natAbs);have hW:W=4294967296:=rfl;have hW2:W^2=2^64:=rfl;simp only[↓zP,zG,Nat.reduceLT,Nat.reduceEqDiff,zI,Option.isSome_some];refine bF (aQn ha _) ?_;simp only[↓zP,zG,Nat.reduceLT,Nat.reduceEqDiff,zI,bitsO];refine⟨fun h=>?_,fun h=>?_⟩
  · have :¬z.natAbs<2^64:=fun hh=>by have :=eU.2 hh;omega
    refine⟨rfl,_,by simp only[↓zP,zR,Nat.reduceEqDiff];rfl,?_⟩;rw[smallO,if_neg (by omega)];rfl
  · have hlt:z.natAbs<2^64:=eU.1 (by omega)
    have e0:(wC (limbs 16 z.natAbs)).getD 0 undefA=.int .u32 (limb z.natAbs 0:Nat):=dS (by omega);have e1:(wC (limbs 16 z.natAbs)).getD 1 undefA=.int .u32 (limb z.natAbs 1:Nat):=dS (by omega);have h0:=dC z.natAbs 0;have h1:=dC z.natAbs 1;have w0:IntKind.u64.wrap ((limb z.natAbs 0:Nat):Int)=(limb z.natAbs 0:Nat):=gH (by omega) (.inl rfl);have w1:IntKind.u64.wrap ((limb z.natAbs 1:Nat):Int)=(limb z.natAbs 1:Nat):=gH (by omega) (.inl rfl)
    have et:limb z.natAbs 1*W+limb z.natAbs 0=z.natAbs:=by
     have h2:limb z.natAbs 0=z.natAbs%W:=by simp[limb]
     have h3:limb z.natAbs 1=z.natAbs / W:=by unfold limb;rw[Nat.pow_one,hW,Nat.mod_eq_of_lt (by omega)]
     rw[h2,h3,Nat.mul_comm];exact Nat.div_add_mod _ _
    have ho:=aWw h1 h0;rw[hW] at et;rw[et] at ho;unfold cI;simp only[↓zP,zG,Nat.reduceLT,Nat.reduceAdd,zI,Nat.reduceLeDiff,Int.reduceLT,la,fS,e0,e1,w0,w1,ho];refine aI ?_;by_cases hz0:z<0
    · simp only[↓zP,zG,Nat.reduceLT,Nat.reduceEqDiff,Nat.reduceAdd,zI,Nat.reduceLeDiff,decide_eq_true hz0,la]
      refine⟨fun h4=>?_,fun h4=>?_⟩
      · have w2:IntKind.u64.wrap (0 -((z.natAbs:Nat):Int))=((2^64 -z.natAbs:Nat):Int):=gH (by omega) (by omega)
        have w3:IntKind.i64.wrap ((2^64 -z.natAbs:Nat):Int)=z:=by
         simp only[IntKind.wrap,IntKind.bits,IntKind.signed];simp;omega
        refine⟨rfl,_,by simp only[↓zP,zR,Nat.reduceEqDiff,w2,w3];rfl,?_⟩;rw[smallO,if_pos (by omega)];rfl
      · refine⟨rfl,_,by simp only[↓zP,zR,Nat.reduceEqDiff];rfl,?_⟩
        rw[smallO,if_neg (by omega)];rfl
    · simp only[↓zP,zG,Nat.reduceLT,Nat.reduceEqDiff,Nat.reduceAdd,zI,Nat.reduceLeDiff,decide_eq_false hz0,la]
      refine⟨fun h4=>?_,fun h4=>?_⟩
      · have w3:IntKind.i64.wrap ((z.natAbs:Nat):Int)=z:=by
         rw[wrap_i64 (by omega) (by omega)];omega
        refine⟨rfl,_,by simp only[↓zP,zR,Nat.reduceEqDiff,w3];rfl,?_⟩;rw[smallO,if_pos (by omega)];rfl
      · refine⟨rfl,_,by simp only[↓zP,zR,Nat.reduceEqDiff];rfl,?_⟩
        rw[smallO,if_neg (by omega)];rfl
def signO:Option Int→Int
 |some z=>if z<0 then -1 else if z=0 then 0 else 1
 |none=>0
def absO:Option Int→Option Int
 |some z=>some z.natAbs
 |none=>none
def cmpO:Option Int→Option Int→Int
 |some x,some y=>if x<y then -1 else if y<x then 1 else 0
 |none,none=>0
 |none,_=> -1
 |_,none=>1
theorem lQ {n:Nat} (h:n<W^16):limbs 16 n=zs↔n=0:=by rw[←lT (.limbs n),cU h]
theorem sU {a:List AV} {x:Option Int} (ha:IsI a x) (H:Heap):Sound Tryz.prog gv 99 [.agg a] H (.ret (.int .i64 (signO x))) H:=by
 refine Sp bFm (by simp only[sf,ha.free]) (by simp only[sf]) ?_ H;unfold W99;dsimp only;simp only[↓zP,zG,Nat.reduceLT,zI];refine aI ?_;simp only[↓zP,zG,Nat.reduceLT,Nat.reduceEqDiff,zI,oL ha.len];refine bF (gW ha _) ?_
 cases x with
 |none=>
  simp only[↓zP,zG,Nat.reduceLT,Nat.reduceEqDiff,zI,Option.isSome_none];exact⟨rfl,_,by simp only[↓zP,zR];rfl,rfl⟩
 |some z=>
  obtain⟨rfl,hz⟩:=ha.some;have la:=iL (.limbs z.natAbs);unfold cI;by_cases hz0:z<0
  · have he:decide (limbs 16 z.natAbs=zs)=false:=by rw[decide_eq_false];rw[lQ hz];omega
    simp only[↓zP,zG,Nat.reduceLT,Nat.reduceEqDiff,Nat.reduceAdd,zI,Nat.reduceLeDiff,Option.isSome_some,la,he,decide_eq_true hz0];refine⟨rfl,_,by simp only[↓zP,zR];rfl,?_⟩;rw[signO,if_pos hz0];rfl
  · by_cases h1:z=0
    · subst h1
      simp only[↓zP,zG,Nat.reduceLT,Nat.reduceEqDiff,Nat.reduceAdd,zI,Int.reduceLT,Option.isSome_some,la,show decide (limbs 16 (Int.natAbs 0)=zs)=true from rfl];exact⟨rfl,_,by simp only[↓zP,zR];rfl,rfl⟩
    · have he:decide (limbs 16 z.natAbs=zs)=false:=by rw[decide_eq_false];rw[lQ hz];omega
      simp only[↓zP,zG,Nat.reduceLT,Nat.reduceEqDiff,Nat.reduceAdd,zI,Nat.reduceLeDiff,Option.isSome_some,la,he,decide_eq_false hz0];refine⟨rfl,_,by simp only[↓zP,zR];rfl,?_⟩;rw[signO,if_neg hz0,if_neg h1];rfl
theorem aUm {a:List AV} {x:Option Int} (ha:IsI a x) (H:Heap):Sound Tryz.prog gv 141 [.agg a] H (.ret (.agg (cO (absO x)))) H:=by
 refine Sp aYt (by simp only[sf,ha.free]) (by simp only[sf,sfI]) ?_ H;unfold W141;dsimp only;simp only[↓zP,zG,Nat.reduceLT,Nat.reduceEqDiff,zI,oL ha.len];refine bF (gW ha _) ?_
 cases x with
 |none=>
  simp only[↓zP,zG,Nat.reduceLT,zI,Option.isSome_none];refine bF (nL _) ?_;simp only[↓zP,zG,Nat.reduceEqDiff,Nat.reduceAdd,zI];exact⟨rfl,_,by simp only[↓zP,zR,Nat.reduceEqDiff];rfl,rfl⟩
 |some z=>
  obtain⟨rfl,hz⟩:=ha.some;have la:=iL (.limbs z.natAbs);unfold cI;simp only[↓zP,zG,Nat.reduceLT,Nat.reduceEqDiff,Nat.reduceAdd,zI,Option.isSome_some,la];refine bF (eR (n:=false) hz (z:=(z.natAbs:Int)) rfl _) ?_;simp only[↓zP,zG,Nat.reduceEqDiff,Nat.reduceAdd,zI];exact⟨rfl,_,by simp only[↓zP,zR,Nat.reduceEqDiff];rfl,rfl⟩
theorem qT {a b:List AV} {x y:Option Int} (ha:IsI a x) (hb:IsI b y) (H:Heap):Sound Tryz.prog gv 55 [.agg a,.agg b] H (.ret (.int .i64 (cmpO x y))) H:=by
 refine Sp bEg (by simp only[sf,ha.free,hb.free]) (by simp only[sf]) ?_ H;unfold W55;dsimp only;refine aA fun K hK=>?_;simp only[↓zP,zG,Nat.reduceLT,Nat.reduceEqDiff,zI];apply hK;clear hK K;refine aA fun K hK=>?_;refine aQ (by decide) ?_;simp only[↓zP,zG,Nat.reduceLT,Nat.reduceEqDiff,Nat.reduceAdd,zD,reduceCtorEq,zI,oL ha.len];refine cE (gW ha _) ?_;simp only[↓zP,zG,Nat.reduceLT,Nat.reduceEqDiff,Nat.reduceAdd,zD,reduceCtorEq,zI,oL hb.len];refine cE (gW hb _) ?_;simp only[↓zP,zG,Nat.reduceLT,Nat.reduceEqDiff,Nat.reduceAdd,zD,reduceCtorEq,zI];apply hK;clear hK K;refine aA fun K hK=>?_;refine aI ?_
 cases x with
 |none=>
  cases y<;>
  · simp only[↓zP,zG,Nat.reduceLT,Nat.reduceEqDiff,zI,Option.isSome_none,Option.isSome_some]
    exact⟨rfl,_,by simp only[↓zP,zR];rfl,rfl⟩
 |some z=>cases y with
  |none=>
   simp only[↓zP,zG,Nat.reduceLT,Nat.reduceEqDiff,zI,Option.isSome_none,Option.isSome_some];exact⟨rfl,_,by simp only[↓zP,zR];rfl,rfl⟩
  |some w=>
   obtain⟨rfl,hz⟩:=ha.some;obtain⟨rfl,hw⟩:=hb.some;have la:=iL (.limbs z.natAbs);have lb:=iL (.limbs w.natAbs);unfold cI;by_cases h1:z<0<;>by_cases h2:w<0
   · simp only[↓zP,zG,Nat.reduceLT,Nat.reduceEqDiff,Nat.reduceAdd,zI,Nat.reduceLeDiff,Option.isSome_some,decide_eq_true h1,decide_eq_true h2,la,lb]
     refine bF (uX hw hz _) ?_;simp only[↓zP,zG,Nat.reduceLT];refine⟨rfl,_,by simp only[↓zP,zR];rfl,?_⟩
     have e:cmpO (some z) (some w)=cmpN w.natAbs z.natAbs:=by
      simp only[cmpO,cmpN]
      repeat' split
      all_goals first|rfl|omega
     rw[e];rfl
   · simp only[↓zP,zG,Nat.reduceLT,Nat.reduceEqDiff,Nat.reduceAdd,zI,Nat.reduceLeDiff,Option.isSome_some,decide_eq_true h1,decide_eq_false h2,la,lb]
     refine⟨rfl,_,by simp only[↓zP,zR];rfl,?_⟩;rw[cmpO,if_pos (by omega)];rfl
   · simp only[↓zP,zG,Nat.reduceLT,Nat.reduceEqDiff,Nat.reduceAdd,zI,Nat.reduceLeDiff,Option.isSome_some,decide_eq_false h1,decide_eq_true h2,la,lb]
     refine⟨rfl,_,by simp only[↓zP,zR];rfl,?_⟩;rw[cmpO,if_neg (by omega),if_pos (by omega)];rfl
   · simp only[↓zP,zG,Nat.reduceLT,Nat.reduceEqDiff,Nat.reduceAdd,zI,Nat.reduceLeDiff,Option.isSome_some,decide_eq_false h1,decide_eq_false h2,la,lb]
     apply hK;simp only[↓zP,zG,Nat.reduceLT,Nat.reduceEqDiff,Nat.reduceAdd,zI,la,lb];refine bF (uX hz hw _) ?_;simp only[↓zP,zG,Nat.reduceLT];refine⟨rfl,_,by simp only[↓zP,zR];rfl,?_⟩
     have e:cmpO (some z) (some w)=cmpN z.natAbs w.natAbs:=by
      simp only[cmpO,cmpN]
      repeat' split
      all_goals first|rfl|omega
     rw[e];rfl
theorem aTr:[AV.int .u32 0,.int .u32 0,.int .u32 0,.int .u32 0,.int .u32 0,.int .u32 0,.int .u32 0,.int .u32 0,.int .u32 0,.int .u32 0,.int .u32 0,.int .u32 0,.int .u32 0,.int .u32 0,.int .u32 0,.int .u32 0,.int .u32 0,.int .u32 0,.int .u32 0,.int .u32 0,.int .u32 0,.int .u32 0,.int .u32 0,.int .u32 0,.int .u32 0,.int .u32 0,.int .u32 0,.int .u32 0,.int .u32 0,.int .u32 0,.int .u32 0,.int .u32 0]=wC (List.replicate 32 0):=rfl
theorem yX {a b:List AV} {x y:Option Int} (ha:IsI a x) (hb:IsI b y) (H:Heap):Sound Tryz.prog gv 69 [.agg a,.agg b] H (.ret (.agg (cO (mulO x y)))) H:=by
 refine Sp bEq (by simp only[sf,ha.free,hb.free]) (by simp only[sf,sfI]) ?_ H;unfold W69;dsimp only;refine aA fun K hK=>?_;simp only[↓zP,zG,Nat.reduceLT,Nat.reduceEqDiff,Nat.reduceAdd,zI];apply hK;clear hK K;refine aA fun K hK=>?_;simp only[↓zP,zG,Nat.reduceLT,Nat.reduceEqDiff,Nat.reduceAdd,zI,oL ha.len,oL hb.len];refine bF (lO ha hb _) ?_
 cases x with
 |none=>
  simp only[↓zP,zG,Nat.reduceLT,zI,Option.isSome_none,Bool.false_and];refine bF (nL _) ?_;simp only[↓zP,zG,Nat.reduceEqDiff,Nat.reduceAdd,zI,badC];exact⟨rfl,_,by simp only[↓zP,zR,Nat.reduceEqDiff,Nat.reduceAdd];rfl,rfl⟩
 |some z=>cases y with
  |none=>
   simp only[↓zP,zG,Nat.reduceLT,zI,Option.isSome_none,Bool.and_false];refine bF (nL _) ?_;simp only[↓zP,zG,Nat.reduceEqDiff,Nat.reduceAdd,zI,badC];exact⟨rfl,_,by simp only[↓zP,zR,Nat.reduceEqDiff,Nat.reduceAdd];rfl,rfl⟩
  |some w=>
   obtain⟨rfl,hz⟩:=ha.some;obtain⟨rfl,hw⟩:=hb.some;have la:=iL (.limbs z.natAbs);have lb:=iL (.limbs w.natAbs);have hW:W=4294967296:=rfl;simp only[↓zP,zG,Nat.reduceLT,zI,Option.isSome_some,Bool.and_self];apply hK;clear hK K;unfold cI;generalize hA:z.natAbs=A at *;generalize hB:w.natAbs=B at *;refine aA fun K hK=>?_;simp only[↓zP,zG,Nat.reduceLT,aTr];apply hK;clear hK K;refine aA fun K hK=>?_;refine aQ (by decide) ?_;simp only[↓zP,zG,Nat.reduceLT,Nat.reduceEqDiff,Nat.reduceAdd,zD,reduceCtorEq,zI,la];refine cE (qN A _) ?_;simp only[↓zP,zG,Nat.reduceLT,Nat.reduceEqDiff,Nat.reduceAdd,zD,reduceCtorEq,zI,lb];refine cE (qN B _) ?_;simp only[↓zP,zG,Nat.reduceLT,Nat.reduceEqDiff,Nat.reduceAdd,zD,reduceCtorEq,zI];apply hK;clear hK K;have hn:=aQb A;have hm:=aQb B;have hAl:=aIv hz;have hBl:=aIv hw;generalize hnn:sz A=n at *;generalize hmm:sz B=m at *;refine aA fun K hK=>?_;refine aA fun K2 hK2=>?_;simp only[↓zP,zG,Nat.reduceLT,Nat.reduceEqDiff];apply hK2;clear hK2 K2;refine bD [] (fun i _ H'=>∃o,LW 32 o∧ofL o=A%W^i*B∧H'.get 0=some (.cells (.bool false::.bool (decide (z<0))::wC (limbs 16 A)) false)∧H'.get 1=some (.cells (.bool false::.bool (decide (w<0))::wC (limbs 16 B)) false)∧H'.get 2=some (.cells (.bool false::.bool false::wC zs) false)∧H'.get 3=some (.cells (wC o) false)) n (by omega) (by decide) ?_ ?_ ?_ ?_ ?_
   · simp only[aC]
   · simp only[aC,ne_eq,Nat.reduceEqDiff,not_false_eq_true]
   · refine⟨List.replicate 32 0,⟨by simp,fun d hd=>by rw[List.eq_of_mem_replicate hd];decide⟩,by rw[Nat.pow_zero,Nat.mod_one,Nat.zero_mul];decide,?_⟩
     simp only[zG,Nat.reduceEqDiff,Nat.reduceAdd,zI]
   · rintro i f H hi hk e1 ⟨o,ho,hv,g0,g1,g2,g3⟩
     have hD:=dC A i;refine aI ?_;refine aA fun K2 hK2=>?_;simp only[↓zP,zG,Nat.reduceLT,e1];apply hK2;clear hK2 K2;refine aA fun K2 hK2=>?_;simp only[↓zP,zG,Nat.reduceLT];apply hK2;clear hK2 K2;refine aA fun K2 hK2=>?_;refine aA fun K3 hK3=>?_;simp only[↓zP,zG,Nat.reduceLT,Nat.reduceEqDiff,hk 7 rfl];apply hK3;clear hK3 K3
     have hP:A%W^i*B<W^(i+m):=by
      rw[Nat.pow_add];exact Nat.mul_lt_mul'' (Nat.mod_lt _ (dU i)) hBl
     refine bD [9] (fun k vs H'=>∃o c,vs=[.int .u64 (c:Nat)]∧c<W∧LW 32 o∧ofL o+c*W^(i+k)=A%W^i*B+limb A i*W^i*(B%W^k)∧(∀j,i+k≤j→o.getD j 0=limb (A%W^i*B) j)∧H'.get 0=some (.cells (.bool false::.bool (decide (z<0))::wC (limbs 16 A)) false)∧H'.get 1=some (.cells (.bool false::.bool (decide (w<0))::wC (limbs 16 B)) false)∧H'.get 2=some (.cells (.bool false::.bool false::wC zs) false)∧H'.get 3=some (.cells (wC o) false)) m (by omega) (by decide) ?_ ?_ ?_ ?_ ?_
     · simp only[aC]
     · simp only[aC,ne_eq,Nat.reduceEqDiff,not_false_eq_true]
     · refine⟨o,0,by simp only[sm,aC,Nat.reduceEqDiff];rfl,by omega,ho,by rw[hv];simp[Nat.mod_one],fun j hj=>by rw[←hv,ho.limb],g0,g1,g2,g3⟩
     · rintro k f2 H2 hkm hk2 e2 ⟨o,c,hv2,hc,ho,he,hj,g0,g1,g2,g3⟩
       simp only[sm,List.cons.injEq,and_true] at hv2;have hB':=dC B k;have ho':=ho.getD (i+k);have hmul:limb A i*limb B k≤4294967295*4294967295:=Nat.mul_le_mul (by omega) (by omega);have q1:IntKind.u64.wrap ((limb A i:Nat):Int)=(limb A i:Nat):=gH (by omega) (.inl rfl);have q2:IntKind.u64.wrap ((limb B k:Nat):Int)=(limb B k:Nat):=gH (by omega) (.inl rfl);have q3:IntKind.u64.wrap ((o.getD (i+k) 0:Nat):Int)=(o.getD (i+k) 0:Nat):=gH (by omega) (.inl rfl);have q4:IntKind.u64.wrap (((limb A i:Nat):Int)*(limb B k:Nat))=((limb A i*limb B k:Nat):Int):=gH (by omega) (.inl (by simp));have q5:IntKind.u64.wrap (((limb A i*limb B k:Nat):Int)+(o.getD (i+k) 0:Nat))=((limb A i*limb B k+o.getD (i+k) 0:Nat):Int):=gH (by omega) (.inl (by omega));have q6:IntKind.u64.wrap (((c:Nat):Int)+((limb A i*limb B k+o.getD (i+k) 0:Nat):Int))=((c+limb A i*limb B k+o.getD (i+k) 0:Nat):Int):=gH (by omega) (.inl (by omega))
       have q7:IntKind.i64.wrap ((i:Int)+(k:Int))=((i+k:Nat):Int):=by rw[wrap_i64 (by omega) (by omega)];omega
       have hg:(wC o).getD (i+k) undefA=.int .u32 (o.getD (i+k) 0:Nat):=iU (by rw[ho.1];omega);have hs:=aOm ho (show i+k<32 by omega) he;refine aI ?_;refine aA fun K2 hK2=>?_;simp only[↓zP,zG,Nat.reduceLT,e2];apply hK2;clear hK2 K2;refine aA fun K2 hK2=>?_;refine aQ (by decide) ?_;simp only[↓zP,zG,Nat.reduceLT,Nat.reduceEqDiff,Nat.reduceAdd,zD,reduceCtorEq,zI,Nat.reduceLeDiff,hv2,hk2 8 rfl,hk2 2 rfl,hk2 3 rfl,hk2 5 rfl,hk 2 rfl,hk 3 rfl,hk 5 rfl,aD,g0,g1,g3,show i<16 by omega,show k<16 by omega,show 2+i≤17 by omega,show 2+k≤17 by omega,la,lb,aTw,dS (show i<16 by omega),dS (show k<16 by omega),q1,q2,q3,q4,q5,q6,q7,show i+k<32 by omega,show i+k+1≤32 by omega,bH,ho.1,hg];apply hK2;clear hK2 K2;simp only[↓zP,zG,Nat.reduceLT,Nat.reduceEqDiff,zI,Int.reduceLT,hk2 8 rfl,hk2 5 rfl,hk 5 rfl,q7,aD,g3,show i+k<32 by omega,show i+k+1≤32 by omega,bH,ho.1,aHb,tY];refine⟨o.set (i+k) _,_,rfl,?_,ho.set (i+k) (Nat.mod_lt _ tJ),hs,fun j hjk=>?_,g0,g1,g2,?_⟩
       · rw[Nat.div_lt_iff_lt_mul tJ,hW];omega
       · rw[aNz (by rw[ho.1];omega),if_neg (by omega)]
         exact hj j (by omega)
       · exact congrArg (fun l=>some (AObj.cells l false)) (mY (by rw[ho.1];omega) _)
     · rintro f2 H2 hk2 ⟨o,c,hv2,hc,ho,he,hj,g0,g1,g2,g3⟩
       simp only[sm,List.cons.injEq,and_true] at hv2
       have q7:IntKind.i64.wrap ((i:Int)+(m:Int))=((i+m:Nat):Int):=by rw[wrap_i64 (by omega) (by omega)];omega
       simp only[↓zP];apply hK2;clear hK2 K2;simp only[↓zP,zG,Nat.reduceLT,Nat.reduceEqDiff,zI,hk2 8 rfl,hk2 7 rfl,hk2 5 rfl,hk 7 rfl,hk 5 rfl,q7,hv2,aD,g3,show i+m<32 by omega,show i+m+1≤32 by omega,bH,ho.1,aHb];rw[Nat.mod_eq_of_lt hc];refine⟨o.set (i+m) c,ho.set _ hc,aRp ho (by omega) hBl rfl he (by rw[hj _ (Nat.le_refl _)];exact mO hP),g0,g1,g2,?_⟩;exact congrArg (fun l=>some (AObj.cells l false)) (mY (by rw[ho.1];omega) _)
   · rintro f H hk ⟨o,ho,hv,g0,g1,g2,g3⟩
     simp only[↓zP];apply hK;clear hK K;rw[Nat.mod_eq_of_lt hAl] at hv;have hoe:=ho.eq;rw[hv] at hoe
     have l1:(wC o).length=32:=by rw[bH,ho.1]
     have l2:((wC o).drop 16).take 16=wC (o.drop 16):=by
      rw[List.take_of_length_le (by simp[l1])];simp[wC]
     have hab:(z*w).natAbs=A*B:=by rw[Int.natAbs_mul,hA,hB]
     have hX:A*B<W^32:=by rw[←hv];exact ho.lt
     have l3:(wC o).take 16=wC (limbs 16 (A*B)):=by rw[hoe,←aFn (by omega:16≤32)];simp[wC]
     have l4:(A*B<W^16)↔o.drop 16=zs:=by rw[hoe];exact aFm hX
     have d16:(o.drop 16).length=16:=by simp[ho.1]
     simp only[↓zP,zG,Nat.reduceLT,Nat.reduceEqDiff,Nat.reduceAdd,zI,Nat.reduceLeDiff,Nat.reduceSub,hk 5 rfl,g3,l1,l2,optNat,show asNat (.int .i64 16)=some 16 from rfl,Option.isSome_none,sliceArrA,Option.getD_none,Option.getD_some,xE (b:=zs) d16 rfl];refine⟨fun h=>?_,fun h=>?_⟩
     · have hlt:=l4.2 h
       have hr:norm (z*w)=some (z*w):=by unfold norm;rw[hab,if_pos hlt]
       refine aQ (by decide) ?_;simp only[↓zP,zG,Nat.reduceLT,Nat.reduceEqDiff,Nat.reduceAdd,zD,reduceCtorEq,zI,Nat.reduceLeDiff,hk 5 rfl,hk 2 rfl,hk 3 rfl,g0,g1,g3,l1,l3,la,lb,optNat,show asNat (.int .i64 16)=some 16 from rfl,Option.isSome_none,Option.isSome_some,sliceArrA,Option.getD_none,Option.getD_some]
       have e:z*w=sg (!(decide (z<0)==decide (w<0))) (A*B):=by
        have ez:z=if z<0 then -(A:Int) else A:=by split<;>omega
        have ew:w=if w<0 then -(B:Int) else B:=by split<;>omega
        by_cases h1:z<0<;>by_cases h2:w<0<;>simp only[h1,h2,if_true,if_false] at ez ew<;>simp[h1,h2,sg]<;>(conv=>lhs;rw[ez,ew])<;>simp only[Int.neg_mul,Int.mul_neg,Int.neg_neg]
       refine cE (eR hlt e _) ?_;simp only[↓zP,zG,Nat.reduceEqDiff,Nat.reduceAdd,zD,zI,hk 4 rfl,g2];refine⟨rfl,_,by simp only[↓zP,zR,Nat.reduceEqDiff,hk 4 rfl];rfl,?_⟩;rw[mulO,hr];rfl
     · refine bF (nL _) ?_
       simp only[↓zP,zG,Nat.reduceEqDiff,Nat.reduceAdd,zI,badC,hk 4 rfl,g2];refine⟨rfl,_,by simp only[↓zP,zR,Nat.reduceEqDiff,Nat.reduceAdd,hk 4 rfl];rfl,?_⟩
       have hr:norm (z*w)=none:=by unfold norm;rw[hab,if_neg (fun hh=>h (l4.1 hh))]
       rw[mulO,hr];rfl
def I64 (z:Int):Prop:= -2^63≤z∧z<2^63
theorem I64.fit {z:Int} (h:I64 z):z.natAbs<W^16:=by
 have h1:(2:Nat)^64<W^16:=by decide
 have :=h.1;have :=h.2;omega
theorem jZ {v:Geo.V} (hv:∀i,I64 (v.at i)) (H:Heap):Sound Tryz.prog gv 145 [.agg (ivC v)] H (.ret (.agg (c3 fun i=>cI (v.at i)))) H:=by
 refine Sp aUd (by simp only[sf,bA]) (by simp only[sf];exact dI fun i _=>bK _) ?_ H;unfold W145;dsimp only;simp only[↓zP,zG,Nat.reduceLT,Nat.reduceEqDiff,zI,kW,oL (aG v)];refine dH [] (fun i _ H'=>H'.get 1=some (.cells (c3 fun j=>if j<i then cI (v.at j) else cI 0) false)) 3 (by decide) rfl (by decide) ?_ ?_ ?_ ?_
 · simp only[aC]
 · simp only[Nat.reduceEqDiff,zI,Nat.not_lt_zero]
 · rintro i f H hi hk e1 g1
   have hl:∀j,j<3→(if j<i then cI (v.at j) else cI 0).length=18:=fun j _=>by split<;>exact bM _
   refine aI ?_;simp only[↓zP,zG,Nat.reduceLT,Nat.reduceEqDiff,zI,e1,hk 5 rfl,aD,hi,aG,show i+1≤3 by omega,dB v hi];refine bF (oW (hv i).1 (hv i).2 _) ?_;simp only[↓zP,zG,Nat.reduceLT,Nat.reduceEqDiff,zI,hk 2 rfl,aD,hi,g1,cK hl,show i*18+18≤54 by omega];rw[aNf hl hi (bM _)]
   exact congrArg (fun l=>some (AObj.cells l false)) (pB fun j _=>by
    by_cases h:j=i
    · subst h;rw[if_pos rfl,if_pos (by omega)]
    · rw[if_neg h]
      by_cases h2:j<i
      · rw[if_pos h2,if_pos (by omega)]
      · rw[if_neg h2,if_neg (by omega)])
 · rintro f H hk g1
   have e:(c3 fun j=>if j<3 then cI (v.at j) else cI 0)=c3 fun i=>cI (v.at i):=pB fun j hj=>if_pos hj;rw[e] at g1;have hl:∀j,j<3→(cI (v.at j)).length=18:=fun j _=>bM _;simp only[↓zP,zG,Nat.reduceEqDiff,zI,hk 2 rfl,g1,oL (cK hl)];exact⟨rfl,_,by simp only[↓zP,zR,Nat.reduceEqDiff,hk 2 rfl,oL (cK hl)];rfl,rfl⟩
theorem aTn {a b:Nat→List AV} {x y:Nat→Option Int} (ha:∀i,i<3→IsI (a i) (x i)) (hb:∀i,i<3→IsI (b i) (y i)) (H:Heap):Sound Tryz.prog gv 146 [.agg (c3 a),.agg (c3 b)] H (.ret (.agg (cO (smO x y 3)))) H:=by
 have la:∀i,i<3→(a i).length=18:=fun i hi=>(ha i hi).len;have lb:∀i,i<3→(b i).length=18:=fun i hi=>(hb i hi).len;refine Sp aUe (by simp only[sf,dI fun i hi=>(ha i hi).free,dI fun i hi=>(hb i hi).free]) (by simp only[sf,sfI]) ?_ H;unfold W146;dsimp only;simp only[↓zP,zG,Nat.reduceLT,Nat.reduceEqDiff,Nat.reduceAdd,zI];refine bF (oW (z:=0) (by decide) (by decide) _) ?_;simp only[↓zP,zG,Nat.reduceLT,Nat.reduceEqDiff,Nat.reduceAdd,zI];refine dH [] (fun i _ H'=>H'.get 0=some (.cells (c3 a) false)∧H'.get 1=some (.cells (c3 b) false)∧H'.get 2=some (.cells (.bool false::.bool false::wC zs) false)∧H'.get 3=some (.cells (cO (smO x y i)) false)) 3 (by decide) rfl (by decide) ?_ ?_ ?_ ?_
 · simp only[aC]
 · simp only[Nat.reduceEqDiff,Nat.reduceAdd,zI];exact⟨trivial,trivial,trivial,rfl⟩
 · rintro i f H hi hk e1 ⟨g0,g1,g2,g3⟩
   refine aI ?_;refine aA fun K hK=>?_;simp only[↓zP,zG,Nat.reduceLT,e1];apply hK;clear hK K;refine aQ (by decide) ?_;simp only[↓zP,zG,Nat.reduceLT,Nat.reduceEqDiff,Nat.reduceAdd,zD,reduceCtorEq,zI,hk 5 rfl,hk 2 rfl,hk 3 rfl,aD,hi,g0,g1,g3,cK la,cK lb,gE la hi,gE lb hi,show i*18+18≤54 by omega];refine cE (yX (ha i hi) (hb i hi) _) ?_;simp only[Nat.reduceAdd];refine cE (aEd (IsI.sm (x:=x) (y:=y) i) (IsI.mul (x:=x i) (y:=y i)) _) ?_;simp only[↓zP,zG,Nat.reduceEqDiff,Nat.reduceAdd,zD,reduceCtorEq,zI,hk 5 rfl,g3];exact⟨g0,g1,g2,rfl⟩
 · rintro f H hk ⟨g0,g1,g2,g3⟩
   simp only[↓zP,zG,Nat.reduceEqDiff,Nat.reduceAdd,zI,hk 5 rfl,hk 4 rfl,g2,g3];exact⟨rfl,_,by simp only[↓zP,zR,Nat.reduceEqDiff,hk 4 rfl];rfl,rfl⟩
theorem aMj {a b:Nat→List AV} {x y:Nat→Option Int} (ha:∀i,i<3→IsI (a i) (x i)) (hb:∀i,i<3→IsI (b i) (y i)) (H:Heap):Sound Tryz.prog gv 144 [.agg (c3 a),.agg (c3 b)] H (.ret (.agg (c3 fun i=>cO (crO x y i)))) H:=by
 have la:∀i,i<3→(a i).length=18:=fun i hi=>(ha i hi).len;have lb:∀i,i<3→(b i).length=18:=fun i hi=>(hb i hi).len;refine Sp aYw (by simp only[sf,dI fun i hi=>(ha i hi).free,dI fun i hi=>(hb i hi).free]) (by simp only[sf];exact dI fun i _=>pJ _) ?_ H;unfold W144;dsimp only;simp only[↓zP,zG,Nat.reduceLT,Nat.reduceEqDiff,Nat.reduceAdd,zI,kW];refine dH [] (fun i _ H'=>H'.get 0=some (.cells (c3 a) false)∧H'.get 1=some (.cells (c3 b) false)∧H'.get 2=some (.cells (c3 fun j=>if j<i then cO (crO x y j) else cI 0) false)) 3 (by decide) rfl (by decide) ?_ ?_ ?_ ?_
 · simp only[aC]
 · simp only[zG,Nat.reduceEqDiff,Nat.reduceAdd,zI,Nat.not_lt_zero]
 · rintro i f H hi hk e1 ⟨g0,g1,g2⟩
   have hl:∀j,j<3→(if j<i then cO (crO x y j) else cI 0).length=18:=fun j _=>by split<;>first|exact bM _|exact nP _
   have w1:IntKind.i64.wrap ((i:Int)+1)=((i+1:Nat):Int):=by rw[wrap_i64 (by omega) (by omega)];simp
   have w2:IntKind.i64.wrap ((i:Int)+2)=((i+2:Nat):Int):=by rw[wrap_i64 (by omega) (by omega)];simp
   have m1:((i+1:Nat):Int).tmod 3=(((i+1)%3:Nat):Int):=rfl;have m2:((i+2:Nat):Int).tmod 3=(((i+2)%3:Nat):Int):=rfl;have b1:(i+1)%3<3:=Nat.mod_lt _ (by decide);have b2:(i+2)%3<3:=Nat.mod_lt _ (by decide);refine aI ?_;refine aA fun K hK=>?_;simp only[↓zP,zG,Nat.reduceLT,e1];apply hK;clear hK K;refine aA fun K hK=>?_;simp only[↓zP,zG,Nat.reduceLT,Nat.reduceEqDiff,zI,Int.reduceEq,w1,w2,m1,m2];apply hK;clear hK K
   have p1:(i+1)%3*18+18≤54:=by omega
   have p2:(i+2)%3*18+18≤54:=by omega
   refine aQ (by decide) ?_;simp only[↓zP,zG,Nat.reduceLT,Nat.reduceEqDiff,Nat.reduceAdd,zD,reduceCtorEq,zI,hk 2 rfl,hk 3 rfl,aD,b1,b2,p1,p2,g0,g1,cK la,cK lb,gE la b1,gE lb b2];refine cE (yX (ha _ b1) (hb _ b2) _) ?_;simp only[↓zP,zG,Nat.reduceLT,Nat.reduceEqDiff,Nat.reduceAdd,zD,reduceCtorEq,zI,hk 2 rfl,hk 3 rfl,aD,b1,b2,p1,p2,g0,g1,cK la,cK lb,gE la b2,gE lb b1];refine cE (yX (ha _ b2) (hb _ b1) _) ?_;simp only[Nat.reduceAdd];refine cE (aNc (IsI.mul (x:=x ((i+1)%3)) (y:=y ((i+2)%3))) (IsI.mul (x:=x ((i+2)%3)) (y:=y ((i+1)%3))) _) ?_;simp only[↓zP,zG,Nat.reduceLT,Nat.reduceEqDiff,Nat.reduceAdd,zD,reduceCtorEq,zI,hk 4 rfl,g2,hi,aD,cK hl,show i*18+18≤54 by omega];refine⟨g0,g1,?_⟩;rw[aNf hl hi (nP _)]
   exact congrArg (fun l=>AObj.cells l false) (pB fun j _=>by
    by_cases h:j=i
    · subst h;rw[if_pos rfl,if_pos (by omega)];rfl
    · rw[if_neg h]
      by_cases h2:j<i
      · rw[if_pos h2,if_pos (by omega)]
      · rw[if_neg h2,if_neg (by omega)])
 · rintro f H hk ⟨g0,g1,g2⟩
   have e:(c3 fun j=>if j<3 then cO (crO x y j) else cI 0)=c3 fun i=>cO (crO x y i):=pB fun j hj=>if_pos hj;rw[e] at g2;have hl:∀j,j<3→(cO (crO x y j)).length=18:=fun j _=>nP _;simp only[↓zP,zG,Nat.reduceEqDiff,zI,hk 4 rfl,g2,oL (cK hl)];exact⟨rfl,_,by simp only[↓zP,zR,Nat.reduceEqDiff,hk 4 rfl,oL (cK hl)];rfl,rfl⟩
theorem aUn {v w:Geo.V} (hv:∀i,I64 (v.at i)) (hw:∀i,I64 (w.at i)) (H:Heap):Sound Tryz.prog gv 107 [.agg (ivC v),.agg (ivC w)] H (.ret (.agg (cO (smO (fun i=>some (v.at i)) (fun i=>some (w.at i)) 3)))) H:=by
 have ha:∀i,i<3→IsI (cI (v.at i)) (some (v.at i)):=fun i _=>.enc (I64.fit (hv i));have hb:∀i,i<3→IsI (cI (w.at i)) (some (w.at i)):=fun i _=>.enc (I64.fit (hw i));refine Sp aTx (by simp only[sf,bA]) (by simp only[sf,sfI]) ?_ H;unfold W107;dsimp only;simp only[↓zP,zG,Nat.reduceLT,Nat.reduceEqDiff,Nat.reduceAdd,zI];refine aQ (by decide) ?_;simp only[↓zP,zG,Nat.reduceLT,Nat.reduceEqDiff,Nat.reduceAdd,zD,reduceCtorEq,zI,oL (aG v)];refine cE (jZ hv _) ?_;simp only[↓zP,zG,Nat.reduceLT,Nat.reduceEqDiff,Nat.reduceAdd,zD,reduceCtorEq,zI,oL (aG w)];refine cE (jZ hw _) ?_;simp only[Nat.reduceAdd];refine cE (aTn ha hb _) ?_;simp only[↓zP,zG,Nat.reduceEqDiff,Nat.reduceAdd,zD,reduceCtorEq,zI];exact⟨rfl,_,by simp only[↓zP,zR,Nat.reduceEqDiff,Nat.reduceAdd];rfl,rfl⟩
theorem aMs {v w:Geo.V} (hv:∀i,I64 (v.at i)) (hw:∀i,I64 (w.at i)) (H:Heap):Sound Tryz.prog gv 106 [.agg (ivC v),.agg (ivC w)] H (.ret (.agg (c3 fun i=>cO (crO (fun i=>some (v.at i)) (fun i=>some (w.at i)) i)))) H:=by
 have ha:∀i,i<3→IsI (cI (v.at i)) (some (v.at i)):=fun i _=>.enc (I64.fit (hv i));have hb:∀i,i<3→IsI (cI (w.at i)) (some (w.at i)):=fun i _=>.enc (I64.fit (hw i));have hl:∀j,j<3→(cO (crO (fun i=>some (v.at i)) (fun i=>some (w.at i)) j)).length=18:=fun j _=>nP _;have hz:∀j:Nat,j<3→(cI 0).length=18:=fun j _=>bM _;refine Sp aXz (by simp only[sf,bA]) (by simp only[sf];exact dI fun i _=>pJ _) ?_ H;unfold W106;dsimp only;simp only[↓zP,zG,Nat.reduceLT,Nat.reduceEqDiff,Nat.reduceAdd,zI,kW];refine aQ (by decide) ?_;simp only[↓zP,zG,Nat.reduceLT,Nat.reduceEqDiff,Nat.reduceAdd,zD,reduceCtorEq,zI,oL (aG v)];refine cE (jZ hv _) ?_;simp only[↓zP,zG,Nat.reduceLT,Nat.reduceEqDiff,Nat.reduceAdd,zD,reduceCtorEq,zI,oL (aG w)];refine cE (jZ hw _) ?_;simp only[Nat.reduceAdd];refine cE (aMj ha hb _) ?_;simp only[↓zP,zG,Nat.reduceEqDiff,Nat.reduceAdd,zD,reduceCtorEq,zI,oL (cK hl),oL (cK hz)];exact⟨rfl,_,by simp only[↓zP,zR,Nat.reduceEqDiff,Nat.reduceAdd,oL (cK hl)];rfl,rfl⟩
theorem aKy {a:Nat→List AV} {x:Nat→Option Int} (ha:∀i,i<3→IsI (a i) (x i)) (H:Heap):Sound Tryz.prog gv 49 [.agg (c3 a)] H (.ret (.agg (ivC ⟨(smallO (x 0)).1,(smallO (x 1)).1,(smallO (x 2)).1⟩))) H:=by
 have la:∀i,i<3→(a i).length=18:=fun i hi=>(ha i hi).len;refine Sp bBl (by simp only[sf,dI fun i hi=>(ha i hi).free]) (by simp only[sf,bA]) ?_ H;unfold W49;dsimp only;simp only[↓zP,zG,Nat.reduceLT,Nat.reduceEqDiff,Nat.reduceAdd,zI];refine dH [] (fun i _ H'=>H'.get 0=some (.cells (c3 a) false)∧H'.get 1=some (.cells [.int .i64 0,.int .i64 0,.int .i64 0] false)∧H'.get 2=some (.cells ([0,1,2].map fun j=>if j<i then .int .i64 (smallO (x j)).1 else .int .i64 0) false)) 3 (by decide) rfl (by decide) ?_ ?_ ?_ ?_
 · simp only[aC]
 · simp only[zG,Nat.reduceEqDiff,Nat.reduceAdd,zI,Nat.not_lt_zero]
 · rintro i f H hi hk e1 ⟨g0,g1,g2⟩
   refine aI ?_;simp only[↓zP,zG,Nat.reduceLT,Nat.reduceEqDiff,zI,e1,hk 1 rfl,aD,hi,g0,cK la,gE la hi,show i*18+18≤54 by omega];refine bF (oX (ha i hi) _) ?_;simp only[↓zP,zG,Nat.reduceLT,Nat.reduceEqDiff,Nat.reduceAdd,zI,hk 3 rfl,g2,aD,hi,show i+1≤3 by omega];refine⟨g0,g1,?_⟩
   match i,hi with
   |0,_=>rfl
   |1,_=>rfl
   |2,_=>rfl
 · rintro f H hk ⟨g0,g1,g2⟩
   simp only[↓zP,zG,Nat.reduceLT,Nat.reduceEqDiff,Nat.reduceAdd,zI,hk 3 rfl,hk 2 rfl,g1,g2];exact⟨rfl,_,by simp only[↓zP,zR,Nat.reduceEqDiff,Nat.reduceAdd,hk 2 rfl];rfl,rfl⟩
end Go.Proofs.YtjiignefffdelaaGreatDoor
