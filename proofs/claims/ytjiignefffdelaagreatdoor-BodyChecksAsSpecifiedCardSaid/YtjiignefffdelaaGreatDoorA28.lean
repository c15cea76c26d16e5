/-
  Parts of the proof of statement 4: Kc, Kd, Ke, Kf
-/
import Derived.Test.YtjiignefffdelaaGreatDoorA27
import Derived.Test.YtjiignefffdelaaGreatDoorA24
import Derived.Test.YtjiignefffdelaaGreatDoorA21
set_option linter.unusedVariables false
set_option maxRecDepth 100000
set_option maxHeartbeats 16000000
namespace Go.Proofs.YtjiignefffdelaaGreatDoor
open Go Go.Av Go.Num
attribute [local congr] aT aM aN aL aV aQ aO aJ
attribute [local irreducible] FC FOps FD2
theorem qM (a:Nat) (H:Heap):Sound Tryz.prog gv 121 [.agg (wC (limbs 16 a))] H (.ret (.int .i64 (sz a:Nat))) H:=by
 refine Sp is121 (by simp only[sf]) (by simp only[sf]) ?_ H;unfold W121;dsimp only;have la:=iL (.limbs a);simp only[↓zP,zG,Nat.reduceLT,zI];refine aH (dL [3] (fun m vs H'=>vs=[.int .i64 (m:Nat)]∧m≤16∧szF m a=sz a∧H'.get 0=some (.cells (wC (limbs 16 a)) false)) 16 (by rfl) ?_ ?_)
 · refine⟨by simp only[sm,aC];rfl,by omega,rfl,by simp only[zI]⟩
 · rintro m f H hk ⟨hv,hm,hd,g0⟩
   simp only[sm,List.cons.injEq,and_true] at hv;simp only[↓zP,zG,Nat.reduceLT,Nat.reduceEqDiff,zI,hv]
   cases m with
   |zero=>
    simp only[zG,zI,show decide (((0:Nat):Int)>0)=false from rfl];refine⟨rfl,_,by simp only[↓zP,zR];rfl,?_⟩;rw[←hd];rfl
   |succ m=>
    have w:IntKind.i64.wrap (((m+1:Nat):Int) -1)=(m:Nat):=by rw[wrap_i64 (by omega) (by omega)];omega
    simp only[↓zP,zG,Nat.reduceEqDiff,zI,show decide (((m+1:Nat):Int)>0)=true from decide_eq_true (by omega),hk 1 rfl,w,aD,g0,show m<16 by omega,show m+1≤16 by omega,la,dR (show m<16 by omega)];by_cases hz:limb a m=0
    · simp only[zG,hz,show(((0:Nat):Int)==0)=true from rfl]
      refine aH ?_;simp only[↓zP,zG,Nat.reduceLT,Nat.reduceEqDiff,hv,w];refine⟨m,by omega,rfl,by omega,by rw[←hd,szF,if_pos hz],g0⟩
    · have hb:(((limb a m:Nat):Int)==0)=false:=by simp;omega
      simp only[zG,hb];refine⟨rfl,_,by simp only[↓zP,zR];rfl,?_⟩;rw[←hd,szF,if_neg hz];rfl
theorem pT:∀b:Nat,b<256→([0,1,2,2,3,3,3,3,4,4,4,4,4,4,4,4,5,5,5,5,5,5,5,5,5,5,5,5,5,5,5,5,6,6,6,6,6,6,6,6,6,6,6,6,6,6,6,6,6,6,6,6,6,6,6,6,6,6,6,6,6,6,6,6,7,7,7,7,7,7,7,7,7,7,7,7,7,7,7,7,7,7,7,7,7,7,7,7,7,7,7,7,7,7,7,7,7,7,7,7,7,7,7,7,7,7,7,7,7,7,7,7,7,7,7,7,7,7,7,7,7,7,7,7,7,7,7,7,8,8,8,8,8,8,8,8,8,8,8,8,8,8,8,8,8,8,8,8,8,8,8,8,8,8,8,8,8,8,8,8,8,8,8,8,8,8,8,8,8,8,8,8,8,8,8,8,8,8,8,8,8,8,8,8,8,8,8,8,8,8,8,8,8,8,8,8,8,8,8,8,8,8,8,8,8,8,8,8,8,8,8,8,8,8,8,8,8,8,8,8,8,8,8,8,8,8,8,8,8,8,8,8,8,8,8,8,8,8,8,8,8,8,8,8,8,8,8,8,8,8,8,8,8,8,8,8]:List UInt8)[b]?=some (UInt8.ofNat (bitlen b)):=by decide+kernel
theorem fdivP (u k:Nat) (kk:IntKind) (hk:k≤kk.bits):(u:Int).fdiv (2^min (Int.toNat k) kk.bits)=((u / 2^k:Nat):Int):=by
 rw[show min (Int.toNat k) kk.bits=k by simp;omega,Int.fdiv_eq_ediv_of_nonneg _ (by exact_mod_cast Nat.zero_le _)];simp
theorem sW {b n:Nat} (hb:b<256) (hn:n≤24):IntKind.i64.wrap ((n:Int)+IntKind.i64.wrap ((UInt8.ofNat (bitlen b)).toNat:Int))=((n+bitlen b:Nat):Int):=by
 have h1:bitlen b≤8:=eT.2 hb
 have h2:(UInt8.ofNat (bitlen b)).toNat=bitlen b:=by simp;omega
 have h3:IntKind.i64.wrap ((bitlen b:Nat):Int)=(bitlen b:Nat):=wrap_i64 (by omega) (by omega);rw[h2,h3,wrap_i64 (by omega) (by omega)];simp
theorem wu8 {b:Nat} (hb:b<256):IntKind.u8.wrap (b:Int)=(b:Int):=by
 simp only[IntKind.wrap,IntKind.bits,IntKind.signed];simp;omega
theorem Len32_ok {a:Nat} (ha:a<W) (H:Heap):Sound Tryz.prog gv 181 [.int .u32 a] H (.ret (.int .i64 (bitlen a:Nat))) H:=by
 refine Sp is181 (by simp only[sf]) (by simp only[sf]) ?_ H;unfold W181;dsimp only;have hW:W=4294967296:=rfl;simp only[↓zP,zG,Nat.reduceLT,Nat.reduceEqDiff,zI,Int.reduceLT];have f16:∀u:Nat,(u:Int).fdiv (2^min (Int.toNat 16) IntKind.u32.bits)=((u / 2^16:Nat):Int):=fun u=>fdivP u 16 .u32 (by decide);have f8:∀u:Nat,(u:Int).fdiv (2^min (Int.toNat 8) IntKind.u32.bits)=((u / 2^8:Nat):Int):=fun u=>fdivP u 8 .u32 (by decide)
 have w24:IntKind.i64.wrap (16+8)=((24:Nat):Int):=by decide
 have w8:IntKind.i64.wrap (0+8)=((8:Nat):Int):=by decide
 refine⟨fun h=>?_,fun h=>?_⟩
 · simp only[f16]
   refine⟨fun h2=>?_,fun h2=>?_⟩
   · have hb:a / 2^16 / 2^8<256:=by omega
     simp only[↓zP,zG,zI,f8,wu8 hb,aD,pT _ hb,w24,sW hb (show 24≤24 by omega)];refine⟨rfl,_,by simp only[↓zP,zR];rfl,?_⟩
     have e:bitlen a=24+bitlen (a / 2^16 / 2^8):=by
      rw[Nat.div_div_eq_div_mul,←Nat.pow_add,gI (k:=16+8) (by omega)];omega
     rw[e];rfl
   · have hb:a / 2^16<256:=by omega
     have :=sW hb (show 16≤24 by omega);simp only[↓zP,zG,zI,wu8 hb,aD,pT _ hb];refine⟨rfl,_,by simp only[↓zP,zR];rfl,?_⟩
     have e:bitlen a=16+bitlen (a / 2^16):=by rw[gI (k:=16) (by omega)];omega
     rw[e,←this];rfl
 · refine⟨fun h2=>?_,fun h2=>?_⟩
   · have hb:a / 2^8<256:=by omega
     simp only[↓zP,zG,zI,f8,wu8 hb,aD,pT _ hb,w8,sW hb (show 8≤24 by omega)];refine⟨rfl,_,by simp only[↓zP,zR];rfl,?_⟩
     have e:bitlen a=8+bitlen (a / 2^8):=by rw[gI (k:=8) (by omega)];omega
     rw[e];rfl
   · have hb:a<256:=by omega
     have :=sW hb (show 0≤24 by omega);simp only[↓zP,zG,zI,wu8 hb,aD,pT _ hb];refine⟨rfl,_,by simp only[↓zP,zR];rfl,?_⟩;rw[Nat.zero_add] at this;rw[←this];rfl
theorem getD2 {α:Type} (a b d:α) (l:List α) (k:Nat):(a::b::l).getD (2+k) d=l.getD k d:=by
 rw[Nat.add_comm];rfl
def bitsO:Option Int→Nat
 |some z=>bitlen z.natAbs
 |none=>0
theorem Bits_ok {a:List AV} {x:Option Int} (ha:IsI a x) (H:Heap):Sound Tryz.prog gv 130 [.agg a] H (.ret (.int .i64 (bitsO x:Nat))) H:=by
 refine Sp is130 (by simp only[sf,ha.free]) (by simp only[sf]) ?_ H;unfold W130;dsimp only;obtain⟨r,rfl,hx,-⟩:=ha.raw;have hr:=ofL_L16 r.hl;have lr:=rF r.hl;have hs:=qM (ofL r.l);rw[lr] at hs;have hgd:=gV ha;rw[show r.cells=.bool r.b::.bool r.n::wC r.l from rfl] at hgd;simp only[↓zP,zG,Nat.reduceLT,Nat.reduceEqDiff,Nat.reduceAdd,zI,RawI.cells,iL r.hl];refine bE (hs _) ?_;simp only[↓zP,zG,Nat.reduceLT,Nat.reduceEqDiff,Nat.reduceAdd,zI,iL r.hl];refine bE (hgd _) ?_
 cases x with
 |none=>
  simp only[↓zP,zG,Nat.reduceLT,Nat.reduceEqDiff,zI,Option.isSome_none];exact⟨rfl,_,by simp only[↓zP,zR];rfl,rfl⟩
 |some z=>
  have hz:=ha.fit;obtain⟨hb,hn,hl,-⟩:=yN r.hl hx.symm
  have ez:ofL r.l=z.natAbs:=by rw[hl,cT hz]
  rw[ez];by_cases h0:sz z.natAbs=0
  · simp only[↓zP,zG,Nat.reduceLT,Nat.reduceEqDiff,zI,Option.isSome_some,h0,show(((0:Nat):Int)==0)=true from rfl]
    refine⟨rfl,_,by simp only[↓zP,zR];rfl,?_⟩;rw[bitsO,(sz_zero hz).1 h0];rfl
  · have hb:(((sz z.natAbs:Nat):Int)==0)=false:=by simp;omega
    have l16:=sz_le z.natAbs
    have w1:IntKind.i64.wrap (((sz z.natAbs:Nat):Int) -1)=((sz z.natAbs -1:Nat):Int):=by rw[wrap_i64 (by omega) (by omega)];omega
    have w2:IntKind.i64.wrap (32*((sz z.natAbs -1:Nat):Int))=((32*(sz z.natAbs -1):Nat):Int):=by rw[wrap_i64 (by omega) (by omega)];simp
    have hg:(wC r.l).getD (sz z.natAbs -1) undefA=.int .u32 (limb z.natAbs (sz z.natAbs -1)):=by rw[hl,dR (by omega)]
    have hbl:bitlen (limb z.natAbs (sz z.natAbs -1))≤32:=eT.2 (dB _ _)
    have w3:IntKind.i64.wrap (((32*(sz z.natAbs -1):Nat):Int)+(bitlen (limb z.natAbs (sz z.natAbs -1)):Nat))=((bitlen z.natAbs:Nat):Int):=by
     rw[wrap_i64 (by omega) (by omega),bitlen_sz hz h0];simp
    simp only[↓zP,zG,Nat.reduceLT,Nat.reduceEqDiff,Nat.reduceAdd,zI,Nat.reduceLeDiff,Option.isSome_some,hb,w1,w2,aD,show sz z.natAbs -1<16 by omega,show 2+(sz z.natAbs -1)≤17 by omega,iL r.hl,getD2,hg];refine bE (Len32_ok (dB z.natAbs (sz z.natAbs -1)) _) ?_;simp only[↓zP,zG,Nat.reduceLT,Nat.reduceEqDiff,zI,w3];exact⟨rfl,_,by simp only[↓zP,zR];rfl,rfl⟩
def smallO:Option Int→Int×Bool
 |some z=>if -2^63≤z∧z<2^63 then(z,true) else(0,false)
 |none=>(0,false)
theorem or64 {a b:Nat} (ha:a<4294967296) (hb:b<4294967296):bitsI .or .u64 (IntKind.u64.wrap (((a:Nat):Int)*2^(min (Int.toNat 32) IntKind.u64.bits))) ((b:Nat):Int)=some (.int .u64 ((a*4294967296+b:Nat):Int)):=by
 have e:IntKind.u64.wrap (((a:Nat):Int)*2^(min (Int.toNat 32) IntKind.u64.bits))=((a*4294967296:Nat):Int):=by
  show IntKind.u64.wrap (((a:Nat):Int)*4294967296)=_;exact gG (by omega) (by omega)
 rw[e]
 have e2:(a*4294967296|||b)=a*4294967296+b:=by
  have :=Nat.two_pow_add_eq_or_of_lt (i:=32) hb a;rw[Nat.mul_comm] at this;exact this.symm
 have e3:∀n:Nat,BitVec.ofInt 64 (n:Int)=BitVec.ofNat 64 n:=fun n=>by simp
 simp only[bitsI];congr 2;rw[show IntKind.u64.bits=64 from rfl,e3,e3,←BitVec.ofNat_or,e2,BitVec.toNat_ofNat,Nat.mod_eq_of_lt (by omega)];exact gG (by omega) (.inl rfl)
theorem oW {a:List AV} {x:Option Int} (ha:IsI a x) (H:Heap):Sound Tryz.prog gv 83 [.agg a] H (.ret (.tup [.int .i64 (smallO x).1,.bool (smallO x).2])) H:=by
 refine Sp is83 (by simp only[sf,ha.free]) (by simp only[sf]) ?_ H;unfold W83;dsimp only;simp only[↓zP,zG,Nat.reduceLT,Nat.reduceEqDiff,zI,oL ha.len];refine bE (gV ha _) ?_
 cases x with
 |none=>
  simp only[↓zP,zG,Nat.reduceLT,Nat.reduceEqDiff,zI,Option.isSome_none];exact⟨rfl,_,by simp only[↓zP,zR,Nat.reduceEqDiff];rfl,rfl⟩
 |some z=>
  obtain⟨rfl,hz⟩:=ha.some;have la:=iL (.limbs z.natAbs);have hW:W=4294967296:=rfl;have hW2:W^2=2^64:=rfl;simp only[↓zP,zG,Nat.reduceLT,Nat.reduceEqDiff,zI,Option.isSome_some];refine bE (Bits_ok ha _) ?_;simp only[↓zP,zG,Nat.reduceLT,Nat.reduceEqDiff,zI,bitsO];refine⟨fun h=>?_,fun h=>?_⟩
  · have :¬z.natAbs<2^64:=fun hh=>by have :=eT.2 hh;omega
    refine⟨rfl,_,by simp only[↓zP,zR,Nat.reduceEqDiff];rfl,?_⟩;rw[smallO,if_neg (by omega)];rfl
  · have hlt:z.natAbs<2^64:=eT.1 (by omega)
    have e0:(wC (limbs 16 z.natAbs)).getD 0 undefA=.int .u32 (limb z.natAbs 0:Nat):=dR (by omega);have e1:(wC (limbs 16 z.natAbs)).getD 1 undefA=.int .u32 (limb z.natAbs 1:Nat):=dR (by omega);have h0:=dB z.natAbs 0;have h1:=dB z.natAbs 1;have w0:IntKind.u64.wrap ((limb z.natAbs 0:Nat):Int)=(limb z.natAbs 0:Nat):=gG (by omega) (.inl rfl);have w1:IntKind.u64.wrap ((limb z.natAbs 1:Nat):Int)=(limb z.natAbs 1:Nat):=gG (by omega) (.inl rfl)
    have et:limb z.natAbs 1*W+limb z.natAbs 0=z.natAbs:=by
     have h2:limb z.natAbs 0=z.natAbs%W:=by simp[limb]
     have h3:limb z.natAbs 1=z.natAbs / W:=by unfold limb;rw[Nat.pow_one,hW,Nat.mod_eq_of_lt (by omega)]
     rw[h2,h3,Nat.mul_comm];exact Nat.div_add_mod _ _
    have ho:=or64 h1 h0;rw[hW] at et;rw[et] at ho;unfold cI;simp only[↓zP,zG,Nat.reduceLT,Nat.reduceAdd,zI,Nat.reduceLeDiff,Int.reduceLT,la,fQ,e0,e1,w0,w1,ho];refine aH ?_;by_cases hz0:z<0
    · simp only[↓zP,zG,Nat.reduceLT,Nat.reduceEqDiff,Nat.reduceAdd,zI,Nat.reduceLeDiff,decide_eq_true hz0,la]
      refine⟨fun h4=>?_,fun h4=>?_⟩
      · have w2:IntKind.u64.wrap (0 -((z.natAbs:Nat):Int))=((2^64 -z.natAbs:Nat):Int):=gG (by omega) (by omega)
        have w3:IntKind.i64.wrap ((2^64 -z.natAbs:Nat):Int)=z:=by
         simp only[IntKind.wrap,IntKind.bits,IntKind.signed];simp;omega
        refine⟨rfl,_,by simp only[↓zP,zR,Nat.reduceEqDiff,w2,w3];rfl,?_⟩;rw[smallO,if_pos (by omega)];rfl
      · refine⟨rfl,_,by simp only[↓zP,zR,Nat.reduceEqDiff];rfl,?_⟩
        rw[smallO,if_neg (by omega)];rfl
    · simp only[↓zP,zG,Nat.reduceLT,Nat.reduceEqDiff,Nat.reduceAdd,zI,Nat.reduceLeDiff,decide_eq_false hz0,la]
      refine⟨fun h4=>?_,fun h4=>?_⟩
      · have w3:IntKind.i64.wrap ((z.natAbs:Nat):Int)=z:=by
         rw[wrap_i64 (by omega) (by omega)];omega
        refine⟨rfl,_,by simp only[↓zP,zR,Nat.reduceEqDiff,w3];rfl,?_⟩;rw[smallO,if_pos (by omega)];rfl
      · refine⟨rfl,_,by simp only[↓zP,zR,Nat.reduceEqDiff];rfl,?_⟩
        rw[smallO,if_neg (by omega)];rfl
def signO:Option Int→Int
 |some z=>if z<0 then -1 else if z=0 then 0 else 1
 |none=>0
def absO:Option Int→Option Int
 |some z=>some z.natAbs
 |none=>none
def cmpO:Option Int→Option Int→Int
 |some x,some y=>if x<y then -1 else if y<x then 1 else 0
 |none,none=>0
 |none,_=> -1
 |_,none=>1
theorem lP {n:Nat} (h:n<W^16):limbs 16 n=zs↔n=0:=by rw[←lS (.limbs n),cT h]
theorem sT {a:List AV} {x:Option Int} (ha:IsI a x) (H:Heap):Sound Tryz.prog gv 99 [.agg a] H (.ret (.int .i64 (signO x))) H:=by
 refine Sp is99 (by simp only[sf,ha.free]) (by simp only[sf]) ?_ H;unfold W99;dsimp only;simp only[↓zP,zG,Nat.reduceLT,zI];refine aH ?_;simp only[↓zP,zG,Nat.reduceLT,Nat.reduceEqDiff,zI,oL ha.len];refine bE (gV ha _) ?_
 cases x with
 |none=>
  simp only[↓zP,zG,Nat.reduceLT,Nat.reduceEqDiff,zI,Option.isSome_none];exact⟨rfl,_,by simp only[↓zP,zR];rfl,rfl⟩
 |some z=>
  obtain⟨rfl,hz⟩:=ha.some;have la:=iL (.limbs z.natAbs);unfold cI;by_cases hz0:z<0
  · have he:decide (limbs 16 z.natAbs=zs)=false:=by rw[decide_eq_false];rw[lP hz];omega
    simp only[↓zP,zG,Nat.reduceLT,Nat.reduceEqDiff,Nat.reduceAdd,zI,Nat.reduceLeDiff,Option.isSome_some,la,he,decide_eq_true hz0];refine⟨rfl,_,by simp only[↓zP,zR];rfl,?_⟩;rw[signO,if_pos hz0];rfl
  · by_cases h1:z=0
    · subst h1
      simp only[↓zP,zG,Nat.reduceLT,Nat.reduceEqDiff,Nat.reduceAdd,zI,Int.reduceLT,Option.isSome_some,la,show decide (limbs 16 (Int.natAbs 0)=zs)=true from rfl];exact⟨rfl,_,by simp only[↓zP,zR];rfl,rfl⟩
    · have he:decide (limbs 16 z.natAbs=zs)=false:=by rw[decide_eq_false];rw[lP hz];omega
      simp only[↓zP,zG,Nat.reduceLT,Nat.reduceEqDiff,Nat.reduceAdd,zI,Nat.reduceLeDiff,Option.isSome_some,la,he,decide_eq_false hz0];refine⟨rfl,_,by simp only[↓zP,zR];rfl,?_⟩;rw[signO,if_neg hz0,if_neg h1];rfl
theorem Abs_ok {a:List AV} {x:Option Int} (ha:IsI a x) (H:Heap):Sound Tryz.prog gv 141 [.agg a] H (.ret (.agg (cO (absO x)))) H:=by
 refine Sp is141 (by simp only[sf,ha.free]) (by simp only[sf,sfI]) ?_ H;unfold W141;dsimp only;simp only[↓zP,zG,Nat.reduceLT,Nat.reduceEqDiff,zI,oL ha.len];refine bE (gV ha _) ?_
 cases x with
 |none=>
  simp only[↓zP,zG,Nat.reduceLT,zI,Option.isSome_none];refine bE (nK _) ?_;simp only[↓zP,zG,Nat.reduceEqDiff,Nat.reduceAdd,zI];exact⟨rfl,_,by simp only[↓zP,zR,Nat.reduceEqDiff];rfl,rfl⟩
 |some z=>
  obtain⟨rfl,hz⟩:=ha.some;have la:=iL (.limbs z.natAbs);unfold cI;simp only[↓zP,zG,Nat.reduceLT,Nat.reduceEqDiff,Nat.reduceAdd,zI,Option.isSome_some,la];refine bE (eQ (n:=false) hz (z:=(z.natAbs:Int)) rfl _) ?_;simp only[↓zP,zG,Nat.reduceEqDiff,Nat.reduceAdd,zI];exact⟨rfl,_,by simp only[↓zP,zR,Nat.reduceEqDiff];rfl,rfl⟩
theorem qS {a b:List AV} {x y:Option Int} (ha:IsI a x) (hb:IsI b y) (H:Heap):Sound Tryz.prog gv 55 [.agg a,.agg b] H (.ret (.int .i64 (cmpO x y))) H:=by
 refine Sp is55 (by simp only[sf,ha.free,hb.free]) (by simp only[sf]) ?_ H;unfold W55;dsimp only;refine aA fun K hK=>?_;simp only[↓zP,zG,Nat.reduceLT,Nat.reduceEqDiff,zI];apply hK;clear hK K;refine aA fun K hK=>?_;refine aP (by decide) ?_;simp only[↓zP,zG,Nat.reduceLT,Nat.reduceEqDiff,Nat.reduceAdd,zD,reduceCtorEq,zI,oL ha.len];refine cD (gV ha _) ?_;simp only[↓zP,zG,Nat.reduceLT,Nat.reduceEqDiff,Nat.reduceAdd,zD,reduceCtorEq,zI,oL hb.len];refine cD (gV hb _) ?_;simp only[↓zP,zG,Nat.reduceLT,Nat.reduceEqDiff,Nat.reduceAdd,zD,reduceCtorEq,zI];apply hK;clear hK K;refine aA fun K hK=>?_;refine aH ?_
 cases x with
 |none=>
  cases y<;>
  · simp only[↓zP,zG,Nat.reduceLT,Nat.reduceEqDiff,zI,Option.isSome_none,Option.isSome_some]
    exact⟨rfl,_,by simp only[↓zP,zR];rfl,rfl⟩
 |some z=>cases y with
  |none=>
   simp only[↓zP,zG,Nat.reduceLT,Nat.reduceEqDiff,zI,Option.isSome_none,Option.isSome_some];exact⟨rfl,_,by simp only[↓zP,zR];rfl,rfl⟩
  |some w=>
   obtain⟨rfl,hz⟩:=ha.some;obtain⟨rfl,hw⟩:=hb.some;have la:=iL (.limbs z.natAbs);have lb:=iL (.limbs w.natAbs);unfold cI;by_cases h1:z<0<;>by_cases h2:w<0
   · simp only[↓zP,zG,Nat.reduceLT,Nat.reduceEqDiff,Nat.reduceAdd,zI,Nat.reduceLeDiff,Option.isSome_some,decide_eq_true h1,decide_eq_true h2,la,lb]
     refine bE (uW hw hz _) ?_;simp only[↓zP,zG,Nat.reduceLT];refine⟨rfl,_,by simp only[↓zP,zR];rfl,?_⟩
     have e:cmpO (some z) (some w)=cmpN w.natAbs z.natAbs:=by
      simp only[cmpO,cmpN]
      repeat' split
      all_goals first|rfl|omega
     rw[e];rfl
   · simp only[↓zP,zG,Nat.reduceLT,Nat.reduceEqDiff,Nat.reduceAdd,zI,Nat.reduceLeDiff,Option.isSome_some,decide_eq_true h1,decide_eq_false h2,la,lb]
     refine⟨rfl,_,by simp only[↓zP,zR];rfl,?_⟩;rw[cmpO,if_pos (by omega)];rfl
   · simp only[↓zP,zG,Nat.reduceLT,Nat.reduceEqDiff,Nat.reduceAdd,zI,Nat.reduceLeDiff,Option.isSome_some,decide_eq_false h1,decide_eq_true h2,la,lb]
     refine⟨rfl,_,by simp only[↓zP,zR];rfl,?_⟩;rw[cmpO,if_neg (by omega),if_pos (by omega)];rfl
   · simp only[↓zP,zG,Nat.reduceLT,Nat.reduceEqDiff,Nat.reduceAdd,zI,Nat.reduceLeDiff,Option.isSome_some,decide_eq_false h1,decide_eq_false h2,la,lb]
     apply hK;simp only[↓zP,zG,Nat.reduceLT,Nat.reduceEqDiff,Nat.reduceAdd,zI,la,lb];refine bE (uW hz hw _) ?_;simp only[↓zP,zG,Nat.reduceLT];refine⟨rfl,_,by simp only[↓zP,zR];rfl,?_⟩
     have e:cmpO (some z) (some w)=cmpN z.natAbs w.natAbs:=by
      simp only[cmpO,cmpN]
      repeat' split
      all_goals first|rfl|omega
     rw[e];rfl
theorem z32_lit:[AV.int .u32 0,.int .u32 0,.int .u32 0,.int .u32 0,.int .u32 0,.int .u32 0,.int .u32 0,.int .u32 0,.int .u32 0,.int .u32 0,.int .u32 0,.int .u32 0,.int .u32 0,.int .u32 0,.int .u32 0,.int .u32 0,.int .u32 0,.int .u32 0,.int .u32 0,.int .u32 0,.int .u32 0,.int .u32 0,.int .u32 0,.int .u32 0,.int .u32 0,.int .u32 0,.int .u32 0,.int .u32 0,.int .u32 0,.int .u32 0,.int .u32 0,.int .u32 0]=wC (List.replicate 32 0):=rfl
theorem yW {a b:List AV} {x y:Option Int} (ha:IsI a x) (hb:IsI b y) (H:Heap):Sound Tryz.prog gv 69 [.agg a,.agg b] H (.ret (.agg (cO (mulO x y)))) H:=by
 refine Sp is69 (by simp only[sf,ha.free,hb.free]) (by simp only[sf,sfI]) ?_ H;unfold W69;dsimp only;refine aA fun K hK=>?_;simp only[↓zP,zG,Nat.reduceLT,Nat.reduceEqDiff,Nat.reduceAdd,zI];apply hK;clear hK K;refine aA fun K hK=>?_;simp only[↓zP,zG,Nat.reduceLT,Nat.reduceEqDiff,Nat.reduceAdd,zI,oL ha.len,oL hb.len];refine bE (lN ha hb _) ?_
 cases x with
 |none=>
  simp only[↓zP,zG,Nat.reduceLT,zI,Option.isSome_none,Bool.false_and];refine bE (nK _) ?_;simp only[↓zP,zG,Nat.reduceEqDiff,Nat.reduceAdd,zI,badC];exact⟨rfl,_,by simp only[↓zP,zR,Nat.reduceEqDiff,Nat.reduceAdd];rfl,rfl⟩
 |some z=>cases y with
  |none=>
   simp only[↓zP,zG,Nat.reduceLT,zI,Option.isSome_none,Bool.and_false];refine bE (nK _) ?_;simp only[↓zP,zG,Nat.reduceEqDiff,Nat.reduceAdd,zI,badC];exact⟨rfl,_,by simp only[↓zP,zR,Nat.reduceEqDiff,Nat.reduceAdd];rfl,rfl⟩
  |some w=>
   obtain⟨rfl,hz⟩:=ha.some;obtain⟨rfl,hw⟩:=hb.some;have la:=iL (.limbs z.natAbs);have lb:=iL (.limbs w.natAbs);have hW:W=4294967296:=rfl;simp only[↓zP,zG,Nat.reduceLT,zI,Option.isSome_some,Bool.and_self];apply hK;clear hK K;unfold cI;generalize hA:z.natAbs=A at *;generalize hB:w.natAbs=B at *;refine aA fun K hK=>?_;simp only[↓zP,zG,Nat.reduceLT,z32_lit];apply hK;clear hK K;refine aA fun K hK=>?_;refine aP (by decide) ?_;simp only[↓zP,zG,Nat.reduceLT,Nat.reduceEqDiff,Nat.reduceAdd,zD,reduceCtorEq,zI,la];refine cD (qM A _) ?_;simp only[↓zP,zG,Nat.reduceLT,Nat.reduceEqDiff,Nat.reduceAdd,zD,reduceCtorEq,zI,lb];refine cD (qM B _) ?_;simp only[↓zP,zG,Nat.reduceLT,Nat.reduceEqDiff,Nat.reduceAdd,zD,reduceCtorEq,zI];apply hK;clear hK K;have hn:=sz_le A;have hm:=sz_le B;have hAl:=sz_lt hz;have hBl:=sz_lt hw;generalize hnn:sz A=n at *;generalize hmm:sz B=m at *;refine aA fun K hK=>?_;refine aA fun K2 hK2=>?_;simp only[↓zP,zG,Nat.reduceLT,Nat.reduceEqDiff];apply hK2;clear hK2 K2;refine bC [] (fun i _ H'=>∃o,LW 32 o∧ofL o=A%W^i*B∧H'.get 0=some (.cells (.bool false::.bool (decide (z<0))::wC (limbs 16 A)) false)∧H'.get 1=some (.cells (.bool false::.bool (decide (w<0))::wC (limbs 16 B)) false)∧H'.get 2=some (.cells (.bool false::.bool false::wC zs) false)∧H'.get 3=some (.cells (wC o) false)) n (by omega) (by decide) ?_ ?_ ?_ ?_ ?_
   · simp only[aC]
   · simp only[aC,ne_eq,Nat.reduceEqDiff,not_false_eq_true]
   · refine⟨List.replicate 32 0,⟨by simp,fun d hd=>by rw[List.eq_of_mem_replicate hd];decide⟩,by rw[Nat.pow_zero,Nat.mod_one,Nat.zero_mul];decide,?_⟩
     simp only[zG,Nat.reduceEqDiff,Nat.reduceAdd,zI]
   · rintro i f H hi hk e1 ⟨o,ho,hv,g0,g1,g2,g3⟩
     have hD:=dB A i;refine aH ?_;refine aA fun K2 hK2=>?_;simp only[↓zP,zG,Nat.reduceLT,e1];apply hK2;clear hK2 K2;refine aA fun K2 hK2=>?_;simp only[↓zP,zG,Nat.reduceLT];apply hK2;clear hK2 K2;refine aA fun K2 hK2=>?_;refine aA fun K3 hK3=>?_;simp only[↓zP,zG,Nat.reduceLT,Nat.reduceEqDiff,hk 7 rfl];apply hK3;clear hK3 K3
     have hP:A%W^i*B<W^(i+m):=by
      rw[Nat.pow_add];exact Nat.mul_lt_mul'' (Nat.mod_lt _ (dT i)) hBl
     refine bC [9] (fun k vs H'=>∃o c,vs=[.int .u64 (c:Nat)]∧c<W∧LW 32 o∧ofL o+c*W^(i+k)=A%W^i*B+limb A i*W^i*(B%W^k)∧(∀j,i+k≤j→o.getD j 0=limb (A%W^i*B) j)∧H'.get 0=some (.cells (.bool false::.bool (decide (z<0))::wC (limbs 16 A)) false)∧H'.get 1=some (.cells (.bool false::.bool (decide (w<0))::wC (limbs 16 B)) false)∧H'.get 2=some (.cells (.bool false::.bool false::wC zs) false)∧H'.get 3=some (.cells (wC o) false)) m (by omega) (by decide) ?_ ?_ ?_ ?_ ?_
     · simp only[aC]
     · simp only[aC,ne_eq,Nat.reduceEqDiff,not_false_eq_true]
     · refine⟨o,0,by simp only[sm,aC,Nat.reduceEqDiff];rfl,by omega,ho,by rw[hv];simp[Nat.mod_one],fun j hj=>by rw[←hv,ho.limb],g0,g1,g2,g3⟩
     · rintro k f2 H2 hkm hk2 e2 ⟨o,c,hv2,hc,ho,he,hj,g0,g1,g2,g3⟩
       simp only[sm,List.cons.injEq,and_true] at hv2;have hB':=dB B k;have ho':=ho.getD (i+k);have hmul:limb A i*limb B k≤4294967295*4294967295:=Nat.mul_le_mul (by omega) (by omega);have q1:IntKind.u64.wrap ((limb A i:Nat):Int)=(limb A i:Nat):=gG (by omega) (.inl rfl);have q2:IntKind.u64.wrap ((limb B k:Nat):Int)=(limb B k:Nat):=gG (by omega) (.inl rfl);have q3:IntKind.u64.wrap ((o.getD (i+k) 0:Nat):Int)=(o.getD (i+k) 0:Nat):=gG (by omega) (.inl rfl);have q4:IntKind.u64.wrap (((limb A i:Nat):Int)*(limb B k:Nat))=((limb A i*limb B k:Nat):Int):=gG (by omega) (.inl (by simp));have q5:IntKind.u64.wrap (((limb A i*limb B k:Nat):Int)+(o.getD (i+k) 0:Nat))=((limb A i*limb B k+o.getD (i+k) 0:Nat):Int):=gG (by omega) (.inl (by omega));have q6:IntKind.u64.wrap (((c:Nat):Int)+((limb A i*limb B k+o.getD (i+k) 0:Nat):Int))=((c+limb A i*limb B k+o.getD (i+k) 0:Nat):Int):=gG (by omega) (.inl (by omega))
       have q7:IntKind.i64.wrap ((i:Int)+(k:Int))=((i+k:Nat):Int):=by rw[wrap_i64 (by omega) (by omega)];omega
       have hg:(wC o).getD (i+k) undefA=.int .u32 (o.getD (i+k) 0:Nat):=iT (by rw[ho.1];omega);have hs:=mul_step ho (show i+k<32 by omega) he;refine aH ?_;refine aA fun K2 hK2=>?_;simp only[↓zP,zG,Nat.reduceLT,e2];apply hK2;clear hK2 K2;refine aA fun K2 hK2=>?_;refine aP (by decide) ?_;simp only[↓zP,zG,Nat.reduceLT,Nat.reduceEqDiff,Nat.reduceAdd,zD,reduceCtorEq,zI,Nat.reduceLeDiff,hv2,hk2 8 rfl,hk2 2 rfl,hk2 3 rfl,hk2 5 rfl,hk 2 rfl,hk 3 rfl,hk 5 rfl,aD,g0,g1,g3,show i<16 by omega,show k<16 by omega,show 2+i≤17 by omega,show 2+k≤17 by omega,la,lb,getD2,dR (show i<16 by omega),dR (show k<16 by omega),q1,q2,q3,q4,q5,q6,q7,show i+k<32 by omega,show i+k+1≤32 by omega,bG,ho.1,hg];apply hK2;clear hK2 K2;simp only[↓zP,zG,Nat.reduceLT,Nat.reduceEqDiff,zI,Int.reduceLT,hk2 8 rfl,hk2 5 rfl,hk 5 rfl,q7,aD,g3,show i+k<32 by omega,show i+k+1≤32 by omega,bG,ho.1,aHa,tX];refine⟨o.set (i+k) _,_,rfl,?_,ho.set (i+k) (Nat.mod_lt _ tI),hs,fun j hjk=>?_,g0,g1,g2,?_⟩
       · rw[Nat.div_lt_iff_lt_mul tI,hW];omega
       · rw[getD_set (by rw[ho.1];omega),if_neg (by omega)]
         exact hj j (by omega)
       · exact congrArg (fun l=>some (AObj.cells l false)) (mX (by rw[ho.1];omega) _)
     · rintro f2 H2 hk2 ⟨o,c,hv2,hc,ho,he,hj,g0,g1,g2,g3⟩
       simp only[sm,List.cons.injEq,and_true] at hv2
       have q7:IntKind.i64.wrap ((i:Int)+(m:Int))=((i+m:Nat):Int):=by rw[wrap_i64 (by omega) (by omega)];omega
       simp only[↓zP];apply hK2;clear hK2 K2;simp only[↓zP,zG,Nat.reduceLT,Nat.reduceEqDiff,zI,hk2 8 rfl,hk2 7 rfl,hk2 5 rfl,hk 7 rfl,hk 5 rfl,q7,hv2,aD,g3,show i+m<32 by omega,show i+m+1≤32 by omega,bG,ho.1,aHa];rw[Nat.mod_eq_of_lt hc];refine⟨o.set (i+m) c,ho.set _ hc,mul_row ho (by omega) hBl rfl he (by rw[hj _ (Nat.le_refl _)];exact mN hP),g0,g1,g2,?_⟩;exact congrArg (fun l=>some (AObj.cells l false)) (mX (by rw[ho.1];omega) _)
   · rintro f H hk ⟨o,ho,hv,g0,g1,g2,g3⟩
     simp only[↓zP];apply hK;clear hK K;rw[Nat.mod_eq_of_lt hAl] at hv;have hoe:=ho.eq;rw[hv] at hoe
     have l1:(wC o).length=32:=by rw[bG,ho.1]
     have l2:((wC o).drop 16).take 16=wC (o.drop 16):=by
      rw[List.take_of_length_le (by simp[l1])];simp[wC]
     have hab:(z*w).natAbs=A*B:=by rw[Int.natAbs_mul,hA,hB]
     have hX:A*B<W^32:=by rw[←hv];exact ho.lt
     have l3:(wC o).take 16=wC (limbs 16 (A*B)):=by rw[hoe,←aFm (by omega:16≤32)];simp[wC]
     have l4:(A*B<W^16)↔o.drop 16=zs:=by rw[hoe];exact aFl hX
     have d16:(o.drop 16).length=16:=by simp[ho.1]
     simp only[↓zP,zG,Nat.reduceLT,Nat.reduceEqDiff,Nat.reduceAdd,zI,Nat.reduceLeDiff,Nat.reduceSub,hk 5 rfl,g3,l1,l2,optNat,show asNat (.int .i64 16)=some 16 from rfl,Option.isSome_none,sliceArrA,Option.getD_none,Option.getD_some,xD (b:=zs) d16 rfl];refine⟨fun h=>?_,fun h=>?_⟩
     · have hlt:=l4.2 h
       have hr:norm (z*w)=some (z*w):=by unfold norm;rw[hab,if_pos hlt]
       refine aP (by decide) ?_;simp only[↓zP,zG,Nat.reduceLT,Nat.reduceEqDiff,Nat.reduceAdd,zD,reduceCtorEq,zI,Nat.reduceLeDiff,hk 5 rfl,hk 2 rfl,hk 3 rfl,g0,g1,g3,l1,l3,la,lb,optNat,show asNat (.int .i64 16)=some 16 from rfl,Option.isSome_none,Option.isSome_some,sliceArrA,Option.getD_none,Option.getD_some]
       have e:z*w=sg (!(decide (z<0)==decide (w<0))) (A*B):=by
        have ez:z=if z<0 then -(A:Int) else A:=by split<;>omega
        have ew:w=if w<0 then -(B:Int) else B:=by split<;>omega
        by_cases h1:z<0<;>by_cases h2:w<0<;>simp only[h1,h2,if_true,if_false] at ez ew<;>simp[h1,h2,sg]<;>(conv=>lhs;rw[ez,ew])<;>simp only[Int.neg_mul,Int.mul_neg,Int.neg_neg]
       refine cD (eQ hlt e _) ?_;simp only[↓zP,zG,Nat.reduceEqDiff,Nat.reduceAdd,zD,zI,hk 4 rfl,g2];refine⟨rfl,_,by simp only[↓zP,zR,Nat.reduceEqDiff,hk 4 rfl];rfl,?_⟩;rw[mulO,hr];rfl
     · refine bE (nK _) ?_
       simp only[↓zP,zG,Nat.reduceEqDiff,Nat.reduceAdd,zI,badC,hk 4 rfl,g2];refine⟨rfl,_,by simp only[↓zP,zR,Nat.reduceEqDiff,Nat.reduceAdd,hk 4 rfl];rfl,?_⟩
       have hr:norm (z*w)=none:=by unfold norm;rw[hab,if_neg (fun hh=>h (l4.1 hh))]
       rw[mulO,hr];rfl
def I64 (z:Int):Prop:= -2^63≤z∧z<2^63
theorem I64.fit {z:Int} (h:I64 z):z.natAbs<W^16:=by
 have h1:(2:Nat)^64<W^16:=by decide
 have :=h.1;have :=h.2;omega
theorem jY {v:Geo.V} (hv:∀i,I64 (v.at i)) (H:Heap):Sound Tryz.prog gv 145 [.agg (ivC v)] H (.ret (.agg (c3 fun i=>cI (v.at i)))) H:=by
 refine Sp is145 (by simp only[sf,aZ]) (by simp only[sf];exact dH fun i _=>bJ _) ?_ H;unfold W145;dsimp only;simp only[↓zP,zG,Nat.reduceLT,Nat.reduceEqDiff,zI,kV,oL (aF v)];refine dG [] (fun i _ H'=>H'.get 1=some (.cells (c3 fun j=>if j<i then cI (v.at j) else cI 0) false)) 3 (by decide) rfl (by decide) ?_ ?_ ?_ ?_
 · simp only[aC]
 · simp only[Nat.reduceEqDiff,zI,Nat.not_lt_zero]
 · rintro i f H hi hk e1 g1
   have hl:∀j,j<3→(if j<i then cI (v.at j) else cI 0).length=18:=fun j _=>by split<;>exact bL _
   refine aH ?_;simp only[↓zP,zG,Nat.reduceLT,Nat.reduceEqDiff,zI,e1,hk 5 rfl,aD,hi,aF,show i+1≤3 by omega,dA v hi];refine bE (oV (hv i).1 (hv i).2 _) ?_;simp only[↓zP,zG,Nat.reduceLT,Nat.reduceEqDiff,zI,hk 2 rfl,aD,hi,g1,cJ hl,show i*18+18≤54 by omega];rw[c3_set hl hi (bL _)]
   exact congrArg (fun l=>some (AObj.cells l false)) (pA fun j _=>by
    by_cases h:j=i
    · subst h;rw[if_pos rfl,if_pos (by omega)]
    · rw[if_neg h]
      by_cases h2:j<i
      · rw[if_pos h2,if_pos (by omega)]
      · rw[if_neg h2,if_neg (by omega)])
 · rintro f H hk g1
   have e:(c3 fun j=>if j<3 then cI (v.at j) else cI 0)=c3 fun i=>cI (v.at i):=pA fun j hj=>if_pos hj;rw[e] at g1;have hl:∀j,j<3→(cI (v.at j)).length=18:=fun j _=>bL _;simp only[↓zP,zG,Nat.reduceEqDiff,zI,hk 2 rfl,g1,oL (cJ hl)];exact⟨rfl,_,by simp only[↓zP,zR,Nat.reduceEqDiff,hk 2 rfl,oL (cJ hl)];rfl,rfl⟩
theorem vdot_ok {a b:Nat→List AV} {x y:Nat→Option Int} (ha:∀i,i<3→IsI (a i) (x i)) (hb:∀i,i<3→IsI (b i) (y i)) (H:Heap):Sound Tryz.prog gv 146 [.agg (c3 a),.agg (c3 b)] H (.ret (.agg (cO (smO x y 3)))) H:=by
 have la:∀i,i<3→(a i).length=18:=fun i hi=>(ha i hi).len;have lb:∀i,i<3→(b i).length=18:=fun i hi=>(hb i hi).len;refine Sp is146 (by simp only[sf,dH fun i hi=>(ha i hi).free,dH fun i hi=>(hb i hi).free]) (by simp only[sf,sfI]) ?_ H;unfold W146;dsimp only;simp only[↓zP,zG,Nat.reduceLT,Nat.reduceEqDiff,Nat.reduceAdd,zI];refine bE (oV (z:=0) (by decide) (by decide) _) ?_;simp only[↓zP,zG,Nat.reduceLT,Nat.reduceEqDiff,Nat.reduceAdd,zI];refine dG [] (fun i _ H'=>H'.get 0=some (.cells (c3 a) false)∧H'.get 1=some (.cells (c3 b) false)∧H'.get 2=some (.cells (.bool false::.bool false::wC zs) false)∧H'.get 3=some (.cells (cO (smO x y i)) false)) 3 (by decide) rfl (by decide) ?_ ?_ ?_ ?_
 · simp only[aC]
 · simp only[Nat.reduceEqDiff,Nat.reduceAdd,zI];exact⟨trivial,trivial,trivial,rfl⟩
 · rintro i f H hi hk e1 ⟨g0,g1,g2,g3⟩
   refine aH ?_;refine aA fun K hK=>?_;simp only[↓zP,zG,Nat.reduceLT,e1];apply hK;clear hK K;refine aP (by decide) ?_;simp only[↓zP,zG,Nat.reduceLT,Nat.reduceEqDiff,Nat.reduceAdd,zD,reduceCtorEq,zI,hk 5 rfl,hk 2 rfl,hk 3 rfl,aD,hi,g0,g1,g3,cJ la,cJ lb,gD la hi,gD lb hi,show i*18+18≤54 by omega];refine cD (yW (ha i hi) (hb i hi) _) ?_;simp only[Nat.reduceAdd];refine cD (aEc (IsI.sm (x:=x) (y:=y) i) (IsI.mul (x:=x i) (y:=y i)) _) ?_;simp only[↓zP,zG,Nat.reduceEqDiff,Nat.reduceAdd,zD,reduceCtorEq,zI,hk 5 rfl,g3];exact⟨g0,g1,g2,rfl⟩
 · rintro f H hk ⟨g0,g1,g2,g3⟩
   simp only[↓zP,zG,Nat.reduceEqDiff,Nat.reduceAdd,zI,hk 5 rfl,hk 4 rfl,g2,g3];exact⟨rfl,_,by simp only[↓zP,zR,Nat.reduceEqDiff,hk 4 rfl];rfl,rfl⟩
theorem vcross_ok {a b:Nat→List AV} {x y:Nat→Option Int} (ha:∀i,i<3→IsI (a i) (x i)) (hb:∀i,i<3→IsI (b i) (y i)) (H:Heap):Sound Tryz.prog gv 144 [.agg (c3 a),.agg (c3 b)] H (.ret (.agg (c3 fun i=>cO (crO x y i)))) H:=by
 have la:∀i,i<3→(a i).length=18:=fun i hi=>(ha i hi).len;have lb:∀i,i<3→(b i).length=18:=fun i hi=>(hb i hi).len;refine Sp is144 (by simp only[sf,dH fun i hi=>(ha i hi).free,dH fun i hi=>(hb i hi).free]) (by simp only[sf];exact dH fun i _=>pI _) ?_ H;unfold W144;dsimp only;simp only[↓zP,zG,Nat.reduceLT,Nat.reduceEqDiff,Nat.reduceAdd,zI,kV];refine dG [] (fun i _ H'=>H'.get 0=some (.cells (c3 a) false)∧H'.get 1=some (.cells (c3 b) false)∧H'.get 2=some (.cells (c3 fun j=>if j<i then cO (crO x y j) else cI 0) false)) 3 (by decide) rfl (by decide) ?_ ?_ ?_ ?_
 · simp only[aC]
 · simp only[zG,Nat.reduceEqDiff,Nat.reduceAdd,zI,Nat.not_lt_zero]
 · rintro i f H hi hk e1 ⟨g0,g1,g2⟩
   have hl:∀j,j<3→(if j<i then cO (crO x y j) else cI 0).length=18:=fun j _=>by split<;>first|exact bL _|exact nO _
   have w1:IntKind.i64.wrap ((i:Int)+1)=((i+1:Nat):Int):=by rw[wrap_i64 (by omega) (by omega)];simp
   have w2:IntKind.i64.wrap ((i:Int)+2)=((i+2:Nat):Int):=by rw[wrap_i64 (by omega) (by omega)];simp
   have m1:((i+1:Nat):Int).tmod 3=(((i+1)%3:Nat):Int):=rfl;have m2:((i+2:Nat):Int).tmod 3=(((i+2)%3:Nat):Int):=rfl;have b1:(i+1)%3<3:=Nat.mod_lt _ (by decide);have b2:(i+2)%3<3:=Nat.mod_lt _ (by decide);refine aH ?_;refine aA fun K hK=>?_;simp only[↓zP,zG,Nat.reduceLT,e1];apply hK;clear hK K;refine aA fun K hK=>?_;simp only[↓zP,zG,Nat.reduceLT,Nat.reduceEqDiff,zI,Int.reduceEq,w1,w2,m1,m2];apply hK;clear hK K
   have p1:(i+1)%3*18+18≤54:=by omega
   have p2:(i+2)%3*18+18≤54:=by omega
   refine aP (by decide) ?_;simp only[↓zP,zG,Nat.reduceLT,Nat.reduceEqDiff,Nat.reduceAdd,zD,reduceCtorEq,zI,hk 2 rfl,hk 3 rfl,aD,b1,b2,p1,p2,g0,g1,cJ la,cJ lb,gD la b1,gD lb b2];refine cD (yW (ha _ b1) (hb _ b2) _) ?_;simp only[↓zP,zG,Nat.reduceLT,Nat.reduceEqDiff,Nat.reduceAdd,zD,reduceCtorEq,zI,hk 2 rfl,hk 3 rfl,aD,b1,b2,p1,p2,g0,g1,cJ la,cJ lb,gD la b2,gD lb b1];refine cD (yW (ha _ b2) (hb _ b1) _) ?_;simp only[Nat.reduceAdd];refine cD (Sub_ok (IsI.mul (x:=x ((i+1)%3)) (y:=y ((i+2)%3))) (IsI.mul (x:=x ((i+2)%3)) (y:=y ((i+1)%3))) _) ?_;simp only[↓zP,zG,Nat.reduceLT,Nat.reduceEqDiff,Nat.reduceAdd,zD,reduceCtorEq,zI,hk 4 rfl,g2,hi,aD,cJ hl,show i*18+18≤54 by omega];refine⟨g0,g1,?_⟩;rw[c3_set hl hi (nO _)]
   exact congrArg (fun l=>AObj.cells l false) (pA fun j _=>by
    by_cases h:j=i
    · subst h;rw[if_pos rfl,if_pos (by omega)];rfl
    · rw[if_neg h]
      by_cases h2:j<i
      · rw[if_pos h2,if_pos (by omega)]
      · rw[if_neg h2,if_neg (by omega)])
 · rintro f H hk ⟨g0,g1,g2⟩
   have e:(c3 fun j=>if j<3 then cO (crO x y j) else cI 0)=c3 fun i=>cO (crO x y i):=pA fun j hj=>if_pos hj;rw[e] at g2;have hl:∀j,j<3→(cO (crO x y j)).length=18:=fun j _=>nO _;simp only[↓zP,zG,Nat.reduceEqDiff,zI,hk 4 rfl,g2,oL (cJ hl)];exact⟨rfl,_,by simp only[↓zP,zR,Nat.reduceEqDiff,hk 4 rfl,oL (cJ hl)];rfl,rfl⟩
theorem Dot_ok {v w:Geo.V} (hv:∀i,I64 (v.at i)) (hw:∀i,I64 (w.at i)) (H:Heap):Sound Tryz.prog gv 107 [.agg (ivC v),.agg (ivC w)] H (.ret (.agg (cO (smO (fun i=>some (v.at i)) (fun i=>some (w.at i)) 3)))) H:=by
 have ha:∀i,i<3→IsI (cI (v.at i)) (some (v.at i)):=fun i _=>.enc (I64.fit (hv i));have hb:∀i,i<3→IsI (cI (w.at i)) (some (w.at i)):=fun i _=>.enc (I64.fit (hw i));refine Sp is107 (by simp only[sf,aZ]) (by simp only[sf,sfI]) ?_ H;unfold W107;dsimp only;simp only[↓zP,zG,Nat.reduceLT,Nat.reduceEqDiff,Nat.reduceAdd,zI];refine aP (by decide) ?_;simp only[↓zP,zG,Nat.reduceLT,Nat.reduceEqDiff,Nat.reduceAdd,zD,reduceCtorEq,zI,oL (aF v)];refine cD (jY hv _) ?_;simp only[↓zP,zG,Nat.reduceLT,Nat.reduceEqDiff,Nat.reduceAdd,zD,reduceCtorEq,zI,oL (aF w)];refine cD (jY hw _) ?_;simp only[Nat.reduceAdd];refine cD (vdot_ok ha hb _) ?_;simp only[↓zP,zG,Nat.reduceEqDiff,Nat.reduceAdd,zD,reduceCtorEq,zI];exact⟨rfl,_,by simp only[↓zP,zR,Nat.reduceEqDiff,Nat.reduceAdd];rfl,rfl⟩
theorem Cross_ok {v w:Geo.V} (hv:∀i,I64 (v.at i)) (hw:∀i,I64 (w.at i)) (H:Heap):Sound Tryz.prog gv 106 [.agg (ivC v),.agg (ivC w)] H (.ret (.agg (c3 fun i=>cO (crO (fun i=>some (v.at i)) (fun i=>some (w.at i)) i)))) H:=by
 have ha:∀i,i<3→IsI (cI (v.at i)) (some (v.at i)):=fun i _=>.enc (I64.fit (hv i));have hb:∀i,i<3→IsI (cI (w.at i)) (some (w.at i)):=fun i _=>.enc (I64.fit (hw i));have hl:∀j,j<3→(cO (crO (fun i=>some (v.at i)) (fun i=>some (w.at i)) j)).length=18:=fun j _=>nO _;have hz:∀j:Nat,j<3→(cI 0).length=18:=fun j _=>bL _;refine Sp is106 (by simp only[sf,aZ]) (by simp only[sf];exact dH fun i _=>pI _) ?_ H;unfold W106;dsimp only;simp only[↓zP,zG,Nat.reduceLT,Nat.reduceEqDiff,Nat.reduceAdd,zI,kV];refine aP (by decide) ?_;simp only[↓zP,zG,Nat.reduceLT,Nat.reduceEqDiff,Nat.reduceAdd,zD,reduceCtorEq,zI,oL (aF v)];refine cD (jY hv _) ?_;simp only[↓zP,zG,Nat.reduceLT,Nat.reduceEqDiff,Nat.reduceAdd,zD,reduceCtorEq,zI,oL (aF w)];refine cD (jY hw _) ?_;simp only[Nat.reduceAdd];refine cD (vcross_ok ha hb _) ?_;simp only[↓zP,zG,Nat.reduceEqDiff,Nat.reduceAdd,zD,reduceCtorEq,zI,oL (cJ hl),oL (cJ hz)];exact⟨rfl,_,by simp only[↓zP,zR,Nat.reduceEqDiff,Nat.reduceAdd,oL (cJ hl)];rfl,rfl⟩
theorem narrow_ok {a:Nat→List AV} {x:Nat→Option Int} (ha:∀i,i<3→IsI (a i) (x i)) (H:Heap):Sound Tryz.prog gv 49 [.agg (c3 a)] H (.ret (.agg (ivC ⟨(smallO (x 0)).1,(smallO (x 1)).1,(smallO (x 2)).1⟩))) H:=by
 have la:∀i,i<3→(a i).length=18:=fun i hi=>(ha i hi).len;refine Sp is49 (by simp only[sf,dH fun i hi=>(ha i hi).free]) (by simp only[sf,aZ]) ?_ H;unfold W49;dsimp only;simp only[↓zP,zG,Nat.reduceLT,Nat.reduceEqDiff,Nat.reduceAdd,zI];refine dG [] (fun i _ H'=>H'.get 0=some (.cells (c3 a) false)∧H'.get 1=some (.cells [.int .i64 0,.int .i64 0,.int .i64 0] false)∧H'.get 2=some (.cells ([0,1,2].map fun j=>if j<i then .int .i64 (smallO (x j)).1 else .int .i64 0) false)) 3 (by decide) rfl (by decide) ?_ ?_ ?_ ?_
 · simp only[aC]
 · simp only[zG,Nat.reduceEqDiff,Nat.reduceAdd,zI,Nat.not_lt_zero]
 · rintro i f H hi hk e1 ⟨g0,g1,g2⟩
   refine aH ?_;simp only[↓zP,zG,Nat.reduceLT,Nat.reduceEqDiff,zI,e1,hk 1 rfl,aD,hi,g0,cJ la,gD la hi,show i*18+18≤54 by omega];refine bE (oW (ha i hi) _) ?_;simp only[↓zP,zG,Nat.reduceLT,Nat.reduceEqDiff,Nat.reduceAdd,zI,hk 3 rfl,g2,aD,hi,show i+1≤3 by omega];refine⟨g0,g1,?_⟩
   match i,hi with
   |0,_=>rfl
   |1,_=>rfl
   |2,_=>rfl
 · rintro f H hk ⟨g0,g1,g2⟩
   simp only[↓zP,zG,Nat.reduceLT,Nat.reduceEqDiff,Nat.reduceAdd,zI,hk 3 rfl,hk 2 rfl,g1,g2];exact⟨rfl,_,by simp only[↓zP,zR,Nat.reduceEqDiff,Nat.reduceAdd,hk 2 rfl];rfl,rfl⟩
end Go.Proofs.YtjiignefffdelaaGreatDoor
