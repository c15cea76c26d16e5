/-
  Parts of the proof of statement 4: GeoH, GeoI, AvInt, AvVec, AvMapR, AvSort
-/
import Derived.Test.YtjiignefffdelaaGreatDoorA20
import Derived.Test.YtjiignefffdelaaGreatDoorA19
import Derived.Test.YtjiignefffdelaaGreatDoorA17
import Derived.Shelf.SlSortCmp.NoneTotal
set_option linter.unusedVariables false
set_option linter.unusedSimpArgs false
set_option linter.unusedSectionVars false
namespace Go.Geo
section
variable {p:Nat→V} {N:Nat} {n:V} {d:Int}
structure Poly (p:Nat→V) (N:Nat) (n:V) (d:Int) (L:List Nat):Prop where
 ex:∃s r m,onL p N n d=s::r∧Way n p (onL p N n d) s m (nxt n p (onL p N n d))∧L=(List.range m).map fun i=>iter (nxt n p (onL p N n d)) i s
theorem Poly.exists (A:Asc p N) (F:Fct p N n d):∃L,Poly p N n d L:=by
 obtain⟨s,r,h⟩:=F.head;obtain⟨m,W⟩:=F.way A h;exact⟨_,⟨s,r,m,h,W,rfl⟩⟩
theorem Poly.uniq {L L':List Nat} (h:Poly p N n d L) (h':Poly p N n d L'):L=L':=by
 obtain⟨s,r,m,e,W,rfl⟩:=h.ex;obtain⟨s',r',m',e',W',rfl⟩:=h'.ex;rw[e] at e';cases e'
 have :m=m':=by
  rcases Nat.lt_trichotomy m m' with hl|he|hl
  · exact absurd W.back (W'.first m W.pos hl)
  · exact he
  · exact absurd W'.back (W.first m' W'.pos hl)
 rw[this]
def Next (L:List Nat) (a b:Nat):Prop:=∃i,i<L.length∧L[i]?=some a∧L[(i+1)%L.length]?=some b
theorem Poly.eA {L:List Nat} (h:Poly p N n d L) {a b:Nat}:Next L a b↔a∈onL p N n d∧Sd n p (onL p N n d) a b:=by
 obtain⟨s,r,m,e,W,rfl⟩:=h.ex
 have hlen:((List.range m).map fun i=>iter (nxt n p (onL p N n d)) i s).length=m:=by simp
 have hget:∀i,i<m→((List.range m).map fun i=>iter (nxt n p (onL p N n d)) i s)[i]?=some (iter (nxt n p (onL p N n d)) i s):=fun i hi=>by
  rw[List.getElem?_map,List.getElem?_range hi];rfl
 have hsucc:∀i,i<m→((List.range m).map fun i=>iter (nxt n p (onL p N n d)) i s)[(i+1)%m]?=some (iter (nxt n p (onL p N n d)) (i+1) s):=fun i hi=>by
  by_cases hm:i+1<m
  · rw[Nat.mod_eq_of_lt hm,hget _ hm]
  · have :i+1=m:=by omega
    rw[this,Nat.mod_self,hget 0 W.pos,W.back];rfl
 unfold Next;rw[hlen];constructor
 · rintro⟨i,hi,h1,h2⟩
   rw[hget i hi] at h1;rw[hsucc i hi] at h2;cases h1;cases h2;exact W.side i
 · rintro⟨ha,hS⟩
   obtain⟨i,hi,rfl⟩:=W.cover ha hS;refine⟨i,hi,hget i hi,?_⟩;rw[hsucc i hi,(W.side i).2.uniq W.H (W.side i).1 hS]
theorem Poly.back (A:Asc p N) (F:IsF p N n d) {L:List Nat} (h:Poly p N n d L) {a b:Nat} (hn:Next L a b):
 ∃n' d' L',IsF p N n' d'∧Poly p N n' d' L'∧Next L' b a:=by
 obtain⟨ha,hS⟩:=h.eA.1 hn;obtain⟨n',d',F',ha',hb',hS',_⟩:=F.adj A ha hS;obtain⟨L',h'⟩:=Poly.exists A F'.fct;exact⟨n',d',L',F',h',h'.eA.2 ⟨hb',hS'⟩⟩
theorem Poly.mem_on {L:List Nat} (h:Poly p N n d L) {k:Nat} (hk:k∈L):k∈onL p N n d:=by
 obtain⟨s,r,m,e,W,rfl⟩:=h.ex;simp only[List.mem_map,List.mem_range] at hk;obtain⟨i,hi,rfl⟩:=hk;exact(W.side i).1
theorem Poly.nextR {L:List Nat} (h:Poly p N n d L) {k:Nat} (hk:k∈L):Geo.nextR n p (onL p N n d) k=some (nxt n p (onL p N n d) k):=by
 obtain⟨s,r,m,e,W,rfl⟩:=h.ex;simp only[List.mem_map,List.mem_range] at hk;obtain⟨i,hi,rfl⟩:=hk;exact nextR_eq W.H (W.side i).1 (W.side i).2
def spanLe (n:V) (a b:List V):Prop:=∀u∈a,∀v∈b,dot n u≤dot n v
def Sep (a b:List V) (n:V):Prop:=spanLe n a b∨spanLe n b a
theorem Sep.symm {a b:List V}:Sep a b n↔Sep b a n:=Or.comm
theorem Sep.neg {a b:List V}:Sep a b (Geo.neg n)↔Sep a b n:=by
 unfold Sep spanLe;simp only[fD];constructor
 · rintro(h|h)
   · exact .inr fun u hu v hv=>by have :=h v hv u hu;omega
   · exact .inl fun u hu v hv=>by have :=h v hv u hu;omega
 · rintro(h|h)
   · exact .inr fun u hu v hv=>by have :=h v hv u hu;omega
   · exact .inl fun u hu v hv=>by have :=h v hv u hu;omega
theorem aEt (a b:V):cross b a=Geo.neg (cross a b):=by
 simp only[cross,Geo.neg];apply V.ext'<;>simp only <;>grind
end
theorem natAbs_tmod (a b:Int):(a.tmod b).natAbs=a.natAbs%b.natAbs:=by
 first
  |exact Int.natAbs_tmod a b
  |(cases a<;>cases b<;>simp only[Int.tmod,Int.natAbs_neg,Int.natAbs_natCast,Int.natAbs_negSucc,Int.ofNat_eq_natCast,Nat.succ_eq_add_one]<;>rfl)
theorem aCe (a b:Int):Int.gcd b (a.tmod b)=Int.gcd a b:=by
 unfold Int.gcd;rw[natAbs_tmod,Nat.gcd_comm a.natAbs,Nat.gcd_rec b.natAbs a.natAbs];rw[Nat.gcd_comm]
theorem gcd_end (a:Int):(Int.gcd a 0:Int)=if a< -a then -a else a:=by
 simp only[Int.gcd_zero_right];split<;>omega
theorem vU (v:V):Int.gcd (Int.gcd v.x v.y) v.z=vgcd v:=by
 unfold vgcd Int.gcd;simp only[Int.natAbs_natCast];exact Nat.gcd_assoc _ _ _
theorem prim_one {v:V} (h:vgcd v≤1):prim v=v:=by
 unfold prim
 rcases Nat.lt_or_ge 0 (vgcd v) with h0|h0
 · have :vgcd v=1:=by omega
   rw[this];simp
 · have hz:vgcd v=0:=by omega
   have hv:v=V0:=by
    refine Classical.byContradiction fun hc=>?_;have :=iH hc;omega
   subst hv;rw[hz];simp[V0]
theorem yD (v:V):prim v=⟨v.x.tdiv (vgcd v),v.y.tdiv (vgcd v),v.z.tdiv (vgcd v)⟩:=by
 have d1:(vgcd v:Int)∣v.x:=Int.gcd_dvd_left ..;have d2:(vgcd v:Int)∣v.y:=Int.dvd_trans (Int.gcd_dvd_right ..) (Int.gcd_dvd_left ..);have d3:(vgcd v:Int)∣v.z:=Int.dvd_trans (Int.gcd_dvd_right ..) (Int.gcd_dvd_right ..);unfold prim;rw[Int.tdiv_eq_ediv_of_dvd d1,Int.tdiv_eq_ediv_of_dvd d2,Int.tdiv_eq_ediv_of_dvd d3]
def Near (B:Nat) (v:V):Prop:=v.x.natAbs≤B∧v.y.natAbs≤B∧v.z.natAbs≤B
theorem aX {a b:Int} {A B:Nat} (ha:a.natAbs≤A) (hb:b.natAbs≤B):(a*b).natAbs≤A*B:=by
 rw[Int.natAbs_mul];exact Nat.mul_le_mul ha hb
theorem fC {a b:V} {A B:Nat} (ha:Near A a) (hb:Near B b):(dot a b).natAbs≤3*(A*B):=by
 have h1:=aX ha.1 hb.1;have h2:=aX ha.2.1 hb.2.1;have h3:=aX ha.2.2 hb.2.2;unfold dot;omega
theorem dI {a b:V} {A B:Nat} (ha:Near A a) (hb:Near B b):Near (2*(A*B)) (cross a b):=by
 obtain⟨a1,a2,a3⟩:=ha;obtain⟨b1,b2,b3⟩:=hb;refine⟨?_,?_,?_⟩<;>simp only[cross]
 · have h1:=aX a2 b3
   have h2:=aX a3 b2;omega
 · have h1:=aX a3 b1
   have h2:=aX a1 b3;omega
 · have h1:=aX a1 b2
   have h2:=aX a2 b1;omega
theorem cG {a b:V} {A B:Nat} (ha:Near A a) (hb:Near B b):Near (A+B) (sub a b):=by
 obtain⟨a1,a2,a3⟩:=ha;obtain⟨b1,b2,b3⟩:=hb;refine⟨?_,?_,?_⟩<;>simp only[sub]<;>omega
theorem gO {v:V} {B:Nat} (h:Near B v):Near B (prim v):=by
 rw[yD]
 have key:∀a:Int,a.natAbs≤B→(a.tdiv (vgcd v)).natAbs≤B:=fun a ha=>by
  rw[Int.natAbs_tdiv];exact Nat.le_trans (Nat.div_le_self _ _) ha
 exact⟨key _ h.1,key _ h.2.1,key _ h.2.2⟩
theorem qA {v:V} {B:Nat} (h:Near B v):Near B (neg v):=by
 obtain⟨a1,a2,a3⟩:=h;refine⟨?_,?_,?_⟩<;>simp only[neg]<;>omega
end Go.Geo
namespace Go.Av
open Go Go.Num
def wC (l:List Nat):List AV:=l.map fun(n:Nat)=>AV.int .u32 n
theorem bG (l:List Nat):(wC l).length=l.length:=by simp[wC]
def zs:List Nat:=List.replicate 16 0
theorem zs_lit:[AV.int .u32 0,.int .u32 0,.int .u32 0,.int .u32 0,.int .u32 0,.int .u32 0,.int .u32 0,.int .u32 0,.int .u32 0,.int .u32 0,.int .u32 0,.int .u32 0,.int .u32 0,.int .u32 0,.int .u32 0,.int .u32 0]=wC zs:=rfl
def L16 (l:List Nat):Prop:=l.length=16∧∀d∈l,d<W
theorem L16.zs:L16 zs:=⟨rfl,fun d hd=>by rw[List.eq_of_mem_replicate hd];decide⟩
theorem L16.limbs (n:Nat):L16 (limbs 16 n):=⟨bD _ _,pW⟩
theorem wC_take {l:List Nat} {n:Nat} (h:l.length≤n):(wC l).take n=wC l:=List.take_of_length_le (by rw[bG];exact h)
theorem wC_drop {l:List Nat} {n:Nat} (h:l.length≤n):(wC l).drop n=[]:=List.drop_of_length_le (by rw[bG];exact h)
theorem iT {l:List Nat} {i:Nat} (h:i<l.length):(wC l).getD i undefA=.int .u32 (l.getD i 0):=by
 unfold wC;rw[List.getD_eq_getElem?_getD,List.getD_eq_getElem?_getD,List.getElem?_map,List.getElem?_eq_getElem h];rfl
theorem mX {l:List Nat} {i:Nat} (h:i<l.length) (x:Nat):splice (wC l) i [.int .u32 (x:Int)]=wC (l.set i x):=by
 unfold splice wC;rw[List.map_set,List.set_eq_take_append_cons_drop,if_pos (by simpa using h)];simp
theorem xE:∀(a b:List Nat),a.length=b.length→eqFlat (List.replicate a.length .i) (wC a) (wC b)=some (decide (a=b))
 |[],[],_=>rfl
 |[],y::b,h=>by simp at h
 |x::a,[],h=>by simp at h
 |x::a,y::b,h=>by
  have ih:=xE a b (by simpa using h);simp only[wC,List.map_cons,List.length_cons,List.replicate_succ,eqFlat,if_true] at ih ⊢;rw[ih];by_cases hx:x=y<;>by_cases hab:a=b<;>simp[hx,hab]<;>omega
theorem xD {a b:List Nat} (ha:a.length=16) (hb:b.length=16):eqFlat [.i,.i,.i,.i,.i,.i,.i,.i,.i,.i,.i,.i,.i,.i,.i,.i] (wC a) (wC b)=some (decide (a=b)):=by
 have :=xE a b (by omega)
 rwa [ha] at this
def cI (z:Int):List AV:=.bool false::.bool (decide (z<0))::wC (limbs 16 z.natAbs)
def badC:List AV:=.bool true::.bool false::wC zs
def cO:Option Int→List AV
 |some z=>cI z
 |none=>badC
def norm (z:Int):Option Int:=if z.natAbs<W^16 then some z else none
def sg (neg:Bool) (n:Nat):Int:=if neg then -(n:Int) else n
def goodW (b n:Bool) (l:List Nat):Bool:= !b&&(!n|| !decide (l=zs))
def valI (b n:Bool) (l:List Nat):Option Int:=if goodW b n l then some (sg n (ofL l)) else none
def IsI (v:List AV) (x:Option Int):Prop:=∃b n l,L16 l∧v=.bool b::.bool n::wC l∧x=valI b n l
theorem aFq:ofL zs=0:=by decide
theorem oB:limbs 16 0=zs:=by decide
theorem ofL_L16 {l:List Nat} (h:L16 l):ofL l<W^16:=by
 have :=aAb l h.2
 rwa [h.1] at this
theorem rF {l:List Nat} (h:L16 l):limbs 16 (ofL l)=l:=by
 have :=xV h.2
 rwa [h.1] at this
theorem lS {l:List Nat} (h:L16 l):ofL l=0↔l=zs:=by
 constructor
 · intro e
   rw[←rF h,e,oB]
 · rintro rfl;exact aFq
theorem dQ (n:Bool) (m:Nat):(sg n m).natAbs=m:=by cases n<;>simp[sg]
theorem yN {b n:Bool} {l:List Nat} {z:Int} (h:L16 l) (e:valI b n l=some z):b=false∧n=decide (z<0)∧l=limbs 16 z.natAbs∧z.natAbs<W^16:=by
 unfold valI at e;split at e
 · rename_i hg
   obtain rfl:=Option.some.inj e;simp only[goodW,Bool.and_eq_true,Bool.not_eq_true',Bool.or_eq_true,decide_eq_false_iff_not] at hg;refine⟨hg.1,?_,?_,?_⟩
   · cases n with
     |false=>simp[sg]
     |true=>
      have :ofL l≠0:=fun e=>by
       rcases hg.2 with h2|h2
       · cases h2
       · exact h2 ((lS h).1 e)
      simp[sg];omega
   · rw[dQ,rF h]
   · rw[dQ];exact ofL_L16 h
 · cases e
theorem IsI.some {v:List AV} {z:Int} (h:IsI v (some z)):v=cI z∧z.natAbs<W^16:=by
 obtain⟨b,n,l,hl,rfl,hv⟩:=h;obtain⟨rfl,rfl,rfl,h4⟩:=yN hl hv.symm;exact⟨rfl,h4⟩
theorem valI_enc {z:Int} (h:z.natAbs<W^16):valI false (decide (z<0)) (limbs 16 z.natAbs)=Option.some z:=by
 have :goodW false (decide (z<0)) (limbs 16 z.natAbs)=true:=by
  simp only[goodW,Bool.not_false,Bool.true_and,Bool.or_eq_true,Bool.not_eq_true',decide_eq_false_iff_not];by_cases hz:z<0
  · refine .inr fun e=>?_
    have :=cT h;rw[e,aFq] at this;omega
  · exact .inl hz
 unfold valI;rw[if_pos this,cT h];congr 1;by_cases hz:z<0<;>simp[sg,hz]<;>omega
theorem IsI.enc {z:Int} (h:z.natAbs<W^16):IsI (cI z) (Option.some z):=⟨false,_,_,.limbs _,rfl,(valI_enc h).symm⟩
theorem IsI.bad:IsI badC none:=⟨true,false,zs,.zs,rfl,rfl⟩
theorem norm_some {z x:Int} (h:norm z=Option.some x):x=z∧z.natAbs<W^16:=by
 unfold norm at h;split at h
 · rename_i hz;exact⟨(Option.some.inj h).symm,hz⟩
 · cases h
theorem IsI.norm (z:Int):IsI (cO (Av.norm z)) (Av.norm z):=by
 cases h:Av.norm z with
 |none=>exact .bad
 |some x=>exact .enc (by obtain⟨rfl,h2⟩:=norm_some h;exact h2)
theorem aCc:∀l,freeL (wC l)=true
 |[]=>rfl
 |x::l=>by
  simp only[wC,List.map_cons,freeL,AV.free,Bool.true_and];exact aCc l
theorem sf:(∀l,freeL (wC l)=true)∧(∀b,(AV.bool b).free=true)∧(∀k n,(AV.int k n).free=true)∧(∀s,(AV.str s).free=true)∧(∀cs,(AV.agg cs).free=freeL cs)∧(∀cs,(AV.tup cs).free=freeL cs)∧
 (∀sz els,(AV.aS 1 sz els).free=freeLL els)∧(∀sz els,(AV.aS 0 sz els).free=freeLL els)∧(∀x r,freeL (x::r)=(x.free&&freeL r))∧(freeL []=true)∧(∀x r,freeLL (x::r)=(freeL x&&freeLL r))∧(freeLL []=true)∧(∀b,(b&&true)=b)∧(∀b,(true&&b)=b)∧
 AV.nilsl.free=true∧AV.nilp.free=true∧AV.nilif.free=true:=
 ⟨aCc,fun _=>by simp only[AV.free],fun _ _=>by simp only[AV.free],fun _=>by simp only[AV.free],fun _=>by simp only[AV.free],fun _=>by simp only[AV.free],fun _ _=>by simp[AV.free],fun _ _=>by simp[AV.free],fun _ _=>by simp only[freeL],by simp only[freeL],fun _ _=>by simp only[freeLL],by simp only[freeLL],Bool.and_true,Bool.true_and,by simp only[AV.free],by simp only[AV.free],by simp only[AV.free]⟩
theorem bJ (z:Int):freeL (cI z)=true:=by simp only[cI,sf]
theorem pI (x:Option Int):freeL (cO x)=true:=by cases x<;>simp only[cO,cI,badC,sf]
theorem sfI:freeL badC=true∧(∀z,freeL (cI z)=true)∧∀x,freeL (cO x)=true:=⟨pI none,bJ,pI⟩
theorem bQ {α:Type} {f:α→List AV} (h:∀x,freeL (f x)=true):∀l:List α,freeLL (l.map f)=true
 |[]=>by simp only[List.map_nil,freeLL]
 |x::l=>by simp only[List.map_cons,freeLL,h,bQ h l,Bool.and_self]
theorem aD (k:IntKind) (n:Nat):asNat (.int k (n:Int))=some n:=by
 simp[asNat]
theorem fQ:(∀k,asNat (.int k 0)=some 0)∧(∀k,asNat (.int k 1)=some 1)∧(∀k,asNat (.int k 2)=some 2)∧(∀k,asNat (.int k 3)=some 3):=⟨fun _=>rfl,fun _=>rfl,fun _=>rfl,fun _=>rfl⟩
theorem bT {α:Type} {f:α→List AV} {l:List α} {i:Nat} (h:i<l.length):(l.map f).getD i []=f l[i]:=by
 simp[List.getD,h]
theorem take_all {α:Type} {p:α→Bool} {l:List α} {i:Nat} (h:i<l.length) (ht:(l.take i).all p=true):(l.take (i+1)).all p=p l[i]:=by
 rw[List.take_add_one,List.all_append,ht];simp[h]
structure RawI where
 b:Bool
 n:Bool
 l:List Nat
 hl:L16 l
def RawI.cells (r:RawI):List AV:=.bool r.b::.bool r.n::wC r.l
def RawI.good (r:RawI):Bool:=goodW r.b r.n r.l
theorem freeL_raw (r:RawI):freeL r.cells=true:=by simp only[RawI.cells,sf]
theorem dR {a i:Nat} (h:i<16):(wC (limbs 16 a)).getD i undefA=.int .u32 (limb a i):=by
 rw[iT (by rw[bD];exact h),dK h]
def cmpN (a b:Nat):Int:=if a<b then -1 else if b<a then 1 else 0
theorem cmpN_lt {a b k:Nat} (h:a / W^(k+1)=b / W^(k+1)) (hk:limb a k≠limb b k):cmpN a b=cmpN (limb a k) (limb b k):=by
 unfold cmpN
 rcases Nat.lt_or_gt_of_ne hk with hc|hc
 · have :=uN h hc
   rw[if_pos this,if_pos hc]
 · have :=uN h.symm hc
   rw[if_neg (by omega),if_pos this,if_neg (by omega),if_pos hc]
def pfx (i:Nat) (l:List Nat):List Nat:=l.take i++List.replicate (l.length -i) 0
theorem jZ {i:Nat} {l:List Nat}:(pfx i l).length=l.length:=by simp[pfx];omega
theorem pfx_zero (l:List Nat):pfx 0 l=List.replicate l.length 0:=by simp[pfx]
theorem pfx_all (l:List Nat):pfx l.length l=l:=by simp[pfx]
theorem pfx_set {i:Nat} {l:List Nat} (h:i<l.length):(pfx i l).set i (l.getD i 0)=pfx (i+1) l:=by
 refine List.ext_getElem (by simp[jZ]) fun k h1 h2=>?_
 have hk:k<l.length:=by rw[jZ] at h2;exact h2
 rw[List.getElem_set];simp only[pfx,List.getElem_append,List.length_take,List.getElem_take,List.getElem_replicate];split
 · rename_i e
   subst e;rw[dif_pos (by omega)];simp[List.getD,h]
 · rename_i e
   split<;>split<;>first|rfl|omega
theorem vA (n:Nat):pfx 0 (limbs 16 n)=zs:=by rw[pfx_zero,bD];rfl
theorem yB (n:Nat):pfx 16 (limbs 16 n)=limbs 16 n:=by
 have :=pfx_all (limbs 16 n)
 rwa [bD] at this
theorem qF (i n:Nat):(wC (pfx i (limbs 16 n))).length=16:=by rw[bG,jZ,bD]
theorem pfx16_set {i n:Nat} (h:i<16) {x:Int} (hx:x=(limb n i:Nat)):splice (wC (pfx i (limbs 16 n))) i [.int .u32 x]=wC (pfx (i+1) (limbs 16 n)):=by
 rw[hx,mX (by rw[jZ,bD];exact h),←pfx_set (by rw[bD];exact h),dK h]
theorem uZ {i n:Nat} (h:i<16) {x:Int} (hx:x=(limb n i:Nat)):(wC (pfx i (limbs 16 n))).take i++[AV.int .u32 x]++(wC (pfx i (limbs 16 n))).drop (i+1)=wC (pfx (i+1) (limbs 16 n)):=pfx16_set h hx
theorem aHa (u:Nat):IntKind.u32.wrap (u:Int)=((u%W:Nat):Int):=by
 simp[IntKind.wrap,IntKind.bits,IntKind.signed,W]
theorem gG {x:Int} {u:Nat} (h:u<2^64) (e:x=u∨x=u -2^64∨x=u+2^64):IntKind.u64.wrap x=u:=by
 simp only[IntKind.wrap,IntKind.bits,IntKind.signed];simp;omega
theorem tX (u:Nat):(u:Int).fdiv (2^min (Int.toNat 32) IntKind.u64.bits)=((u / W:Nat):Int):=by
 show(u:Int).fdiv (2^32)=_;rw[Int.fdiv_eq_ediv_of_nonneg _ (by decide)];rfl
def addO:Option Int→Option Int→Option Int
 |some x,some y=>norm (x+y)
 |_,_=>none
def negO:Option Int→Option Int
 |some x=>some (-x)
 |none=>none
theorem IsI.raw {v:List AV} {x:Option Int} (h:IsI v x):∃r:RawI,v=r.cells∧x=valI r.b r.n r.l∧r.good=x.isSome:=by
 obtain⟨b,n,l,hl,rfl,rfl⟩:=h;refine⟨⟨b,n,l,hl⟩,rfl,rfl,?_⟩;simp only[RawI.good,valI];split<;>rename_i h<;>simp[h]
theorem IsI.len {v:List AV} {x:Option Int} (h:IsI v x):v.length=18:=by
 obtain⟨b,n,l,hl,rfl,rfl⟩:=h;simp[bG,hl.1]
theorem IsI.free {v:List AV} {x:Option Int} (h:IsI v x):freeL v=true:=by
 obtain⟨b,n,l,hl,rfl,rfl⟩:=h;simp only[sf]
theorem bL (z:Int):(cI z).length=18:=by simp[cI,bG,bD]
theorem nO (x:Option Int):(cO x).length=18:=by
 cases x
 · simp[cO,badC,bG,zs]
 · exact bL _
theorem oL {cs:List AV} {n:Nat} (h:cs.length=n):cs.length=n∧cs.take n=cs∧cs.drop n=[]:=⟨h,List.take_of_length_le (by omega),List.drop_of_length_le (by omega)⟩
theorem cOl:(∀x,(cO x).length=18)∧(∀x,(cO x).take 18=cO x)∧(∀x,(cO x).drop 18=[])∧(∀x,(cI x).length=18)∧(∀x,(cI x).take 18=cI x)∧(∀x,(cI x).drop 18=[]):=
 ⟨nO,fun x=>(oL (nO x)).2.1,fun x=>(oL (nO x)).2.2,bL,fun x=>(oL (bL x)).2.1,fun x=>(oL (bL x)).2.2⟩
theorem IsI.add {x y:Option Int}:IsI (cO (addO x y)) (addO x y):=by
 cases x<;>cases y<;>first|exact .norm _|exact .bad
theorem IsI.neg {x:Option Int} {v:List AV} (h:IsI v x):IsI (cO (negO x)) (negO x):=by
 cases x with
 |none=>exact .bad
 |some z=>exact .enc (by have :=h.some.2;rwa [Int.natAbs_neg])
def mulO:Option Int→Option Int→Option Int
 |some x,some y=>norm (x*y)
 |_,_=>none
def smO (x y:Nat→Option Int):Nat→Option Int
 |0=>some 0
 |i+1=>addO (smO x y i) (mulO (x i) (y i))
theorem IsI.mul {x y:Option Int}:IsI (cO (mulO x y)) (mulO x y):=by
 cases x<;>cases y<;>first|exact .norm _|exact .bad
theorem IsI.sm {x y:Nat→Option Int}:∀i,IsI (cO (smO x y i)) (smO x y i)
 |0=>.enc (by decide)
 |i+1=>.add
def crO (x y:Nat→Option Int) (i:Nat):Option Int:=addO (mulO (x ((i+1)%3)) (y ((i+2)%3))) (negO (mulO (x ((i+2)%3)) (y ((i+1)%3))))
theorem IsI.fit {v:List AV} {z:Int} (h:IsI v (Option.some z)):z.natAbs<W^16:=h.some.2
theorem iL {l:List Nat} (h:L16 l):(wC l).length=16∧l.length=16∧(wC l).take 16=wC l∧(wC l).drop 16=[]∧eqFlat [.i,.i,.i,.i,.i,.i,.i,.i,.i,.i,.i,.i,.i,.i,.i,.i] (wC l) (wC zs)=some (decide (l=zs)):=
 ⟨by rw[bG,h.1],h.1,wC_take (by rw[h.1];omega),wC_drop (by rw[h.1];omega),xD h.1 rfl⟩
theorem iz:(wC zs).length=16∧(wC zs).take 16=wC zs∧(wC zs).drop 16=[]:=⟨(iL .zs).1,(iL .zs).2.2.1,(iL .zs).2.2.2.1⟩
def c3 (c:Nat→List AV):List AV:=c 0++(c 1++c 2)
theorem cJ {c:Nat→List AV} (h:∀i,i<3→(c i).length=18):(c3 c).length=54:=by
 simp[c3,h 0 (by decide),h 1 (by decide),h 2 (by decide)]
theorem gD {c:Nat→List AV} (h:∀i,i<3→(c i).length=18) {i:Nat} (hi:i<3):((c3 c).drop (i*18)).take 18=c i:=by
 have h0:=h 0 (by decide);have h1:=h 1 (by decide);have h2:=h 2 (by decide)
 match i,hi with
 |0,_=>simp[c3,List.take_append,h0]
 |1,_=>simp[c3,List.drop_append,List.take_append,h0,h1]
 |2,_=>simp[c3,List.drop_append,List.take_append,h0,h1,h2,List.drop_of_length_le (show(c 0).length≤36 by omega),List.take_of_length_le (show(c 2).length≤18 by omega)]
theorem pA {c d:Nat→List AV} (h:∀i,i<3→c i=d i):c3 c=c3 d:=by
 simp only[c3,h 0 (by decide),h 1 (by decide),h 2 (by decide)]
theorem c3_set {c:Nat→List AV} (h:∀i,i<3→(c i).length=18) {i:Nat} (hi:i<3) {x:List AV} (hx:x.length=18):
 (c3 c).take (i*18)++x++(c3 c).drop (i*18+18)=c3 (fun j=>if j=i then x else c j):=by
 have h0:=h 0 (by decide);have h1:=h 1 (by decide);have h2:=h 2 (by decide)
 match i,hi with
 |0,_=>simp[c3,List.drop_append,h0]
 |1,_=>simp[c3,List.drop_append,List.take_append,h0,h1]
 |2,_=>simp[c3,List.drop_append,List.take_append,h0,h1,h2,List.take_of_length_le (show(c 0).length≤36 by omega),List.drop_of_length_le (show(c 0).length≤54 by omega),List.drop_of_length_le (show(c 1).length≤36 by omega),List.drop_of_length_le (show(c 2).length≤18 by omega)]
theorem dH {c:Nat→List AV} (h:∀i,i<3→freeL (c i)=true):freeL (c3 c)=true:=by
 simp[c3,eB,h 0 (by decide),h 1 (by decide),h 2 (by decide)]
theorem cI_zero:cI 0=.bool false::.bool false::wC zs:=by simp[cI,oB]
theorem kV: .bool false::.bool false::.int .u32 0::.int .u32 0::.int .u32 0::.int .u32 0::.int .u32 0::.int .u32 0::.int .u32 0::.int .u32 0::.int .u32 0::.int .u32 0::.int .u32 0::.int .u32 0::.int .u32 0::.int .u32 0::.int .u32 0::.int .u32 0::.bool false::.bool false::.int .u32 0::.int .u32 0::.int .u32 0::.int .u32 0::.int .u32 0::.int .u32 0::.int .u32 0::.int .u32 0::.int .u32 0::.int .u32 0::.int .u32 0::.int .u32 0::.int .u32 0::.int .u32 0::.int .u32 0::.int .u32 0::.bool false::.bool false::wC zs=c3 (fun _=>cI 0):=by
 simp only[cI_zero];rfl
def _root_.Go.Geo.V.at (v:Geo.V) (i:Nat):Int:=match i with
 |0=>v.x
 |1=>v.y
 |_=>v.z
def ivC (v:Geo.V):List AV:=[.int .i64 v.x,.int .i64 v.y,.int .i64 v.z]
theorem aF (v:Geo.V):(ivC v).length=3:=rfl
theorem dA (v:Geo.V) {i:Nat} (hi:i<3):(ivC v).getD i undefA=.int .i64 (v.at i):=by
 match i,hi with
 |0,_=>rfl
 |1,_=>rfl
 |2,_=>rfl
theorem aZ (v:Geo.V):freeL (ivC v)=true:=by simp only[ivC,sf]
end Go.Av
namespace Go.Av
open Go
section
section
variable {P:Program} {g:Genv} {n:Nat} {r:List ROper} {f:Slt} {ds:List Dfr} {H:Heap} {Q:FQ}
theorem rP {d m:Nat} {x:Arg} {es:List (AV×AV)} (hd:d<n) (hx:evF g f x=.map m) (hm:H.get m=some (.map es))
 (h:∀bs c mb,bs.length=es.length→bs.Nodup→FOps P g n r (upd f d (.ref H.next 0)) ds ((H.set m (.mapf es bs c mb)).alloc (.iter m mb c [])) Q):
 FOps P g n (⟨some d,.mrange x,none⟩::r) f ds H Q:=by
 have :∀v,putF n f (some d) v=upd f d v:=fun v=>by simp[putF,hd]
 unfold FOps;simp only[wantedF,if_true,this];exact⟨m,es,hx,hm,h⟩
theorem tE {d it m mb c:Nat} {x:Arg} {es:List (AV×AV)} {seen bs:List Nat} (hd:d<n) (hx:evF g f x=.ref it 0) (hi:H.get it=some (.iter m mb c seen)) (hm:H.get m=some (.mapf es bs c mb))
 (h0:(∀b∈bs,b∈seen)→FOps P g n r (upd f d (.tup [.bool false])) ds H Q)
 (h1:∀j,j<bs.length→bs.getD j 0∉seen→FOps P g n r (upd f d (.tup [.bool true,(es.getD j (undefA,undefA)).1,(es.getD j (undefA,undefA)).2])) ds (H.set it (.iter m mb c (seen++[bs.getD j 0]))) Q):
 FOps P g n (⟨some d,.mnext x,none⟩::r) f ds H Q:=by
 have :∀v,putF n f (some d) v=upd f d v:=fun v=>by simp[putF,hd]
 unfold FOps;simp only[wantedF,if_true,this];exact⟨it,m,mb,c,seen,es,bs,hx,hi,hm,h0,h1⟩
theorem aBe {d it m mb c j:Nat} {x:Arg} {es:List (AV×AV)} {seen bs:List Nat} (hd:d<n) (hx:evF g f x=.ref it 0) (hi:H.get it=some (.iter m mb c (seen++[bs.getD j 0]))) (hm:H.get m=some (.mapf es bs c mb)) (hj:j<bs.length)
 (h:FOps P g n r (upd f d (.tup [(es.getD j (undefA,undefA)).1,(es.getD j (undefA,undefA)).2])) ds H Q):
 FOps P g n (⟨some d,.mentry x,none⟩::r) f ds H Q:=by
 have :∀v,putF n f (some d) v=upd f d v:=fun v=>by simp[putF,hd]
 unfold FOps;simp only[wantedF,if_true,this];exact⟨it,m,mb,c,seen,es,bs,j,hx,hi,hm,hj,h⟩
end
def FreeUp (H:Heap):Prop:=∀j,H.next≤j→H.get j=none
theorem FreeUp.nil (n:Nat):FreeUp ⟨n,.nil⟩:=fun _ _=>rfl
theorem FreeUp.alloc {H:Heap} (h:FreeUp H) (o:AObj):FreeUp (H.alloc o):=fun j hj=>by
 simp only[Heap.aW] at hj;rw[Heap.aG,if_neg (by omega)];exact h j (by omega)
theorem FreeUp.set {H:Heap} (h:FreeUp H) {id:Nat} (hi:id<H.next) (o:AObj):FreeUp (H.set id o):=fun j hj=>by
 simp only[Heap.aR] at hj;rw[Heap.aB,if_neg (by omega)];exact h j hj
theorem FreeUp.at1 {H:Heap} (h:FreeUp H):freeAt H 1=true:=by
 simp only[freeAt,Nat.add_zero,h _ (Nat.le_refl _)];rfl
theorem FreeUp.at2 {H:Heap} (h:FreeUp H):freeAt H 2=true:=by
 simp only[freeAt,Nat.add_zero,h _ (Nat.le_refl _),h (H.next+1) (by omega)];rfl
def rowO (sz:Nat) (els:List (List AV)):AV:=if els=[] then .nilsl else .aS 0 sz els
theorem rowO_free {sz:Nat} {els:List (List AV)} (h:freeLL els=true):(rowO sz els).free=true:=by
 unfold rowO;split<;>simp[AV.free,h]
theorem tR {sz:Nat}:∀{els:List (List AV)},(∀e∈els,e.length=sz)→chunkF sz els.length els.flatten=els
 |[],_=>rfl
 |e::els,h=>by
  have he:=h e List.mem_cons_self;simp only[List.length_cons,chunkF,List.flatten_cons];rw[List.take_append_of_le_length (by omega),List.take_of_length_le (by omega),List.drop_append_of_le_length (by omega),List.drop_of_length_le (by omega),List.nil_append,tR fun x hx=>h x (List.mem_cons_of_mem _ hx)]
theorem eU {sz:Nat}:∀{els:List (List AV)},(∀e∈els,e.length=sz)→els.flatten.length=els.length*sz
 |[],_=>by simp
 |e::els,h=>by
  have he:=h e List.mem_cons_self;have :=eU fun x hx=>h x (List.mem_cons_of_mem e hx);simp only[List.flatten_cons,List.length_append,List.length_cons,Nat.add_mul,Nat.one_mul];omega
theorem aDp {H2:Heap} {id sz cap:Nat} {els:List (List AV)} {opn:Bool} (hg:H2.get id=some (.cells els.flatten opn)) (hu:∀e∈els,e.length=sz) (hf:freeLL els=true) (nw:Nat):
 shutF H2 none nw 0 (.sl id sz 0 els.length cap)=some (.aS 0 sz els):=by
 have hc:H2.cellsAt id=some els.flatten:=by simp[Heap.cellsAt,hg]
 have hl:Nat.ble (0+els.length*sz) els.flatten.length=true:=by rw[eU hu];simp
 simp only[shutF,shut1,hc,List.drop_zero,hl,dZ hf,Bool.and_self,tR hu]
theorem lB {H:Heap} {sz bytes:Nat} {ys:List (List AV)} (hy:ys.isEmpty=false) (hb:ys.length*bytes≤2^40):appendA H sz bytes true .nilsl ys=some (.sl H.next sz 0 ys.length ys.length,H.alloc (.cells ys.flatten true)):=by
 simp[appendA,hy,hb,newRowA]
theorem lC {H:Heap} {id n sz bytes:Nat} {cs:List AV} {ys:List (List AV)} (hg:H.get id=some (.cells cs true)) (hc:cs.length=n*sz) (hy:ys.isEmpty=false) (hb:(n+ys.length)*bytes≤2^40) (hs:1≤sz):
 appendA H sz bytes true (.sl id sz 0 n n) ys=some (.sl H.next sz 0 (n+ys.length) (n+ys.length),(H.set id .dead).alloc (.cells (cs++ys.flatten) true)):=by
 have hl:0<ys.length:=by cases ys with
  |nil=>simp at hy
  |cons _ _=>simp
 simp only[appendA,hy,Bool.false_eq_true,if_false,hg,hb,hs,and_self,if_true];rw[if_neg (by omega),if_neg (by simp[hc]),if_pos ⟨trivial,trivial,trivial,hc⟩]
def Has (H:Heap) (sz:Nat) (v:AV) (els:List (List AV)):Prop:=v=.aS 1 sz els∨Own H sz v els
theorem Has.push {H:Heap} {sz bytes:Nat} {v:AV} {els ys:List (List AV)} (h:Has H sz v els) (hy:ys.isEmpty=false) (hb:(els.length+ys.length)*bytes≤2^40):
 ∃H',appendA H sz bytes false v ys=some (.aS (H.next+2) sz (els++ys),H')∧H'.next=H.next+1∧H'.get H.next=some .tok∧(∀id,id<H.next→H.get id≠some .tok→H'.get id=H.get id)∧(FreeUp H→FreeUp H'):=by
 have fresh:∀els':List (List AV),appendA H sz bytes false v ys=some (newRowA H false sz els')→∃H',appendA H sz bytes false v ys=some (.aS (H.next+2) sz els',H')∧H'.next=H.next+1∧H'.get H.next=some .tok∧(∀id,id<H.next→H.get id≠some .tok→H'.get id=H.get id)∧(FreeUp H→FreeUp H'):=fun els' e=>
  ⟨H.alloc .tok,e,by simp,by rw[Heap.aG,if_pos rfl],fun id h1 _=>by rw[Heap.aG,if_neg (by omega)],fun hf=>hf.alloc _⟩
 rcases h with rfl|⟨rfl,rfl⟩|⟨k,rfl,hkn,hk⟩
 · exact fresh _ (by simp[appendA,hy,hb])
 · simp only[List.length_nil,Nat.zero_add] at hb
   exact fresh _ (by simp[appendA,hy,hb])
 · refine⟨(H.set k .dead).alloc .tok,by simp[appendA,hy,hb,hk],by simp,by rw[Heap.aG,Heap.aR,if_pos rfl],fun id h1 h2=>?_,fun hf=>(hf.set hkn _).alloc _⟩
   rw[Heap.aG,Heap.aR,if_neg (by omega),Heap.aB,if_neg];rintro rfl;exact h2 hk
theorem Has.keep {H H':Heap} {sz:Nat} {v:AV} {els:List (List AV)} (h:Has H sz v els) (hn:H.next≤H'.next) (hk:∀k,k<H.next→H.get k=some .tok→H'.get k=some .tok):Has H' sz v els:=by
 rcases h with rfl|⟨rfl,rfl⟩|⟨k,rfl,h1,h2⟩
 · exact .inl rfl
 · exact .inr (.inl ⟨rfl,rfl⟩)
 · exact .inr (.inr ⟨k,rfl,by omega,hk k h1 h2⟩)
theorem Has.shut {H2:Heap} {sz:Nat} {v:AV} {els:List (List AV)} (h:Has H2 sz v els) (hne:els≠[]) (hl:v≠ .aS 1 sz els) (hf:freeLL els=true) (nw:Nat):shutF H2 none nw 0 v=some (.aS 0 sz els):=by
 rcases h with rfl|⟨rfl,rfl⟩|⟨k,rfl,h1,h2⟩
 · exact absurd rfl hl
 · exact absurd rfl hne
 · simp[shutF,shut1,hf,tagA]
end
end Go.Av
namespace Go.Av
open Go Go.Proofs Go.Shelf Go.Lib Go.Sort
abbrev Vec (k:Nat):={l:List Int // l.length=k}
instance (k:Nat):Inhabited (Vec k):=⟨⟨List.replicate k 0,by simp⟩⟩
def encV {k:Nat} (x:Vec k):List Value:=x.1.map (Value.int .i64)
def encA {k:Nat} (x:Vec k):List AV:=x.1.map (AV.int .i64)
def rowV {k:Nat} (d:List (Vec k)):List Int:=d.flatMap (·.1)
theorem encV_len {k:Nat} (x:Vec k):(encV x).length=k:=by simp[encV,x.2]
def Gno:Gh:=⟨fun _=>none,fun _ _=>False,true⟩
theorem WR.empty {g:Genv} (hg:∀n,g n=none) (w:World):WR g Gno ⟨0,.nil⟩ w where
 cells:=fun id l cs opn h=>by cases h
 room:=fun id l h=>by cases h
 disj:=fun id id' l l' _ h=>by cases h
 immd:=fun id l h=>by cases h
 mapr:=fun id l o h=>by cases h
 lt:=fun id l h=>by cases h
 imme:=fun b o h=>h.elim
 glob:=fun n cs h=>by rw[hg n] at h;cases h
 mo:=by unfold Genv.mo;rw[hg];rfl
theorem VRs.ints {G:Gh} {w:World} (l:List Int):VRs G w (l.map (AV.int .i64)) (l.map (Value.int .i64)):=by
 refine⟨by simp,fun j hj=>?_⟩
 have hj':j<l.length:=by simpa using hj
 have e1:(l.map (AV.int .i64)).getD j undefA=.int .i64 l[j]:=by simp[List.getD,hj']
 have e2:(l.map (Value.int .i64)).getD j undef=.int .i64 l[j]:=by simp[List.getD,hj']
 rw[e1,e2];exact .int ..
theorem aAx {G':Gh} {H':Heap} {w w':World} (e:Ext Gno ⟨0,.nil⟩ w G' H' w'):∃q os',w'=grow (w.drewN q) os':=by
 refine⟨w'.drawn -w.drawn,w'.heap.extract w.heap.size w'.heap.size,?_⟩
 have hh:w'.heap=w.heap++w'.heap.extract w.heap.size w'.heap.size:=by
  apply Array.ext_getElem?;intro b;rw[Array.getElem?_append];have hs:=e.size;split
  · rename_i hb
    exact e.frame b hb (fun id l h=>by cases h)
  · rename_i hb
    rw[Array.getElem?_extract];by_cases h2:b<w'.heap.size
    · rw[if_pos (by omega)];congr 1;omega
    · rw[if_neg (by omega),Array.getElem?_eq_none (by omega)]
 obtain⟨h1,h2,h3,h4⟩:=e.same
 replace h4:=h4 rfl
 cases w';cases w;simp only[grow,World.drewN,World.mk.injEq] at *;exact⟨hh,h3,by omega,h1,h2⟩
theorem yZ {P:Program} {f:FuncId} (hok:FnOK P f) (args:Array Value) (w:World):(callFunc f args).run P w=.ok (.enter f args) w:=by
 obtain⟨fn,h1,h2,h3⟩:=hok
 have hb:¬fn.body=none:=fun hh=>by rw[hh] at h2;cases h2
 have h3':¬fn.name= "runtime.NumGoroutine" :=by simpa using h3
 simp[callFunc,program,Sem.run,h1,h3',hb]
theorem cmpLays {P:Program} {g:Genv} (hg:∀n,g n=none) {k:Nat} {gf:FuncId} {cf:Vec k→Vec k→Int}
 (hcl:∀x y,Sound P g gf [.agg (encA x),.agg (encA y)] ⟨0,.nil⟩ (.ret (.int .i64 (cf x y))) ⟨0,.nil⟩) (blk off size:Nat) (w:World):CmpLays P gf #[] encV k cf blk off size w:=by
 intro m os dk hs x y
 have hv:∀z:Vec k,VR Gno (sortWorldK encV k w blk off m dk os) (.agg (encA z)) (.agg (encV z).toArray):=fun z=>by
  have :=VRs.ints (G:=Gno) (w:=sortWorldK encV k w blk off m dk os) z.1;exact .agg _ _ this.1 (fun c hc=>by obtain⟨n,_,rfl⟩:=List.mem_map.1 hc;rfl) this.2
 refine((hcl x y).2 Gno (sortWorldK encV k w blk off m dk os) [.agg (encV x).toArray,.agg (encV y).toArray] (WR.empty hg _) ⟨rfl,fun j hj=>?_⟩).mono fun e w' he=>?_
 · match j,hj with
   |0,_=>exact hv x
   |1,_=>exact hv y
 · obtain⟨G',h1,h2,h3⟩:=he
   refine⟨?_,aAx h2⟩
   cases e with
   |returned u=>cases h3;rfl
   |_=>exact h3.elim
theorem yH {k:Nat} (hk:1≤k):∀(d:List (Vec k)) (t:Nat),t<d.length*k→(rowV d)[t]?=some ((d[t / k]?.getD default).1[t%k]?.getD 0)
 |[],t,h=>by simp at h
 |x::d,t,h=>by
  have hx:=x.2;simp only[rowV,List.flatMap_cons];rw[List.getElem?_append];split
  · rename_i h1
    rw[Nat.div_eq_of_lt (by omega),Nat.mod_eq_of_lt (by omega)];simp[List.getElem?_eq_getElem h1]
  · rename_i h1
    have h2:k≤t:=by omega
    have h3:t -k<d.length*k:=by simp only[List.length_cons,Nat.add_mul,Nat.one_mul] at h;omega
    have e1:t / k=(t -k) / k+1:=by rw[←Nat.add_div_right _ (by omega)];congr 1;omega
    have e2:t%k=(t -k)%k:=by rw[←Nat.mod_eq_sub_mod h2]
    rw[hx,e1,e2,List.getElem?_cons_succ];exact yH hk d (t -k) h3
theorem dN {k:Nat}:∀d:List (Vec k),(rowV d).length=d.length*k
 |[]=>by simp[rowV]
 |x::d=>by
  have :=dN d;simp only[rowV,List.flatMap_cons,List.length_append,List.length_cons,x.2,Nat.add_mul,Nat.one_mul] at this ⊢;omega
theorem aCa {k:Nat} (hk:1≤k) (d:List (Vec k)):flatK encV k d.toArray=((rowV d).map (Value.int .i64)).toArray:=by
 refine ext_get! (by simp[dN]) fun t ht=>?_
 have ht':t<d.length*k:=by simpa using ht
 rw[get_flatK _ _ _ _ (by simpa using ht')];have h1:=yH hk d t ht';have hm:t%k<k:=Nat.mod_lt _ (by omega)
 have hd:t / k<d.length:=by rwa [Nat.div_lt_iff_lt_mul (by omega)]
 have hl:(d[t / k]).1.length=k:=(d[t / k]).2
 have e2:(((rowV d).map (Value.int .i64)).toArray)[t]! =.int .i64 ((d[t / k]).1[t%k]'(by omega)):=by
  rw[getElem!_pos _ _ (by simpa [dN] using ht')]
  have h3:t<(rowV d).length:=by rw[dN];exact ht'
  rw[List.getElem?_eq_getElem h3] at h1;simp only[List.getElem_toArray,List.getElem_map];rw[Option.some.inj h1];simp[hd,List.getElem?_eq_getElem (show t%k<(d[t / k]).1.length by omega)]
 rw[e2,getElem!_pos d.toArray (t / k) (by simpa using hd)];simp only[encV,List.getElem_toArray];rw[getElem!_pos _ _ (by simp;omega)];simp
theorem aGw {k:Nat} (hk:1≤k) {w:World} {blk off n:Nat} {d':List (Vec k)} {c:Array Value} {el:TypeId} {fz:Nat×Nat} (hrow:w.heap[blk]?=some (.cells c el fz)):
 Upd w (putRowK encV k (Sort.ahead w n) blk off d'.toArray) blk off ((rowV d').map (Value.int .i64)) where
 size:=by simp[putRowK,putRow,mapBlock,Sort.ahead]
 other:=fun b' hb=>by
  simp only[putRowK,putRow,mapBlock,Sort.ahead,Array.getElem?_modify];rw[if_neg (Ne.symm hb)]
 row:=fun c1 el1 fz1 h=>by
  rw[hrow] at h;cases h;refine⟨putCells id off (flatK encV k d'.toArray) c,?_,by simp[putCells],fun o ho=>?_,fun j hj hlt=>?_⟩
  · simp[putRowK,putRow,mapBlock,Sort.ahead,Array.getElem?_modify,hrow,onCells]
  · simp only[putCells,Array.getElem?_mapIdx,size_flatK]
    have :¬(off≤o∧o<off+d'.toArray.size*k):=by
     simp only[List.length_map,dN,List.size_toArray] at ho ⊢;omega
    simp only[if_neg this]
    cases c[o]?<;>rfl
  · simp only[List.length_map,dN] at hj
    simp only[putCells,Array.getElem?_mapIdx,size_flatK];rw[Array.getElem?_eq_getElem hlt,Option.map_some,if_pos (by simp;omega)];rw[show off+j -off=j by omega,aCa hk,getElem!_pos _ _ (by simpa [dN] using hj)];simp[List.getD,dN,hj]
 same:=.now (h4:=Nat.le_add_right _ _)
theorem nN {P:Program} {g:Genv} (hg:∀n,g n=none) {ρ:Ren} (L:SlLaysF0.n6 P ρ) {k:Nat} (hk:1≤k) (aE:∀w,(isAgg (ρ.t 24)).run P w=.ok true w) (zE:∀w,(Go.sizeOf (ρ.t 24)).run P w=.ok k w)
 {gf sf:FuncId} (hsf:sf=ρ.f 6) (hfs:FnOK P sf) (hfg:FnOK P gf) {cf:Vec k→Vec k→Int} (hO:SWO (ltOf cf))
 (hcl:∀x y,Sound P g gf [.agg (encA x),.agg (encA y)] ⟨0,.nil⟩ (.ret (.int .i64 (cf x y))) ⟨0,.nil⟩) (d:List (Vec k)) (hd:d.length<4611686018427387904):
 ∃d':List (Vec k),d'.Perm d∧(d'.Pairwise fun a b=>¬cf b a<0)∧∀(H:Heap) (id:Nat) (opn:Bool),H.get id=some (.cells ((rowV d).map (AV.int .i64)) opn)→
  Sound P g sf [.sl id k 0 d.length d.length,.func (.func gf) [] []] H (.ret (.tup [])) (H.set id (.cells ((rowV d').map (AV.int .i64)) opn)):=by
 subst hsf;have hp:=pdq_sorts (ltOf cf) hO d.toArray 0 d.toArray.size (Lib.bitLen d.toArray.size) true true (Nat.zero_le _) (Nat.le_refl _) (Or.inl rfl);generalize hD:pdq (ltOf cf) d.toArray 0 d.toArray.size (Lib.bitLen d.toArray.size) true true=D at hp;obtain⟨⟨q1,q2,q3⟩,q4⟩:=hp
 have hperm:D.toList.Perm d:=by
  rw[←q1] at q3
  have e1:(D.extract 0 D.size).toList=D.toList:=by simp
  have e2:(d.toArray.extract 0 D.size).toList=d:=by rw[q1];simp
  rwa [e1,e2] at q3
 have hlen:D.toList.length=d.length:=hperm.length_eq;refine⟨D.toList,hperm,?_,fun H id opn hget=>⟨hfs,fun G w vs hw hvs=>?_⟩⟩
 · rw[List.pairwise_iff_getElem]
   intro i j hi hj hij;have :=q4 i j (Nat.zero_le _) hij (by simp at hj hlen ⊢;omega);simp only[ltOf,decide_eq_false_iff_not] at this;simp only[Array.length_toList] at hi hj;rw[getElem!_pos D i hi,getElem!_pos D j hj] at this;simpa using this
 · obtain⟨hl,hv⟩:=hvs
   match vs,hl with
   |[u0,u1],_=>
    have v0:=hv 0 (by simp);have v1:=hv 1 (by simp);simp only[List.getD_cons_zero,List.getD_cons_succ] at v0 v1
    cases v0 with
    |sl _ _ _ _ _ cap' l hloc hle hin hcap=>
     cases v1 with
     |func _ _ _ az bz ha hb _ _=>
      obtain rfl:az=[]:=List.eq_nil_of_length_eq_zero ha;obtain rfl:bz=[]:=List.eq_nil_of_length_eq_zero hb;obtain⟨a1,a2,a3,a4,a5⟩:=hw.cells id l _ opn hloc hget;obtain⟨c,el,fz,b1,b2,b3⟩:=hw.room id l hloc (.inl ⟨_,_,hget⟩)
      have hcl1:((rowV d).map (AV.int .i64)).length=d.length*k:=by simp[dN]
      have hH:HoldsK encV k w l.blk (l.base+0) d.toArray:=by
       intro j hj;rw[size_flatK] at hj
       have hj':j<d.length*k:=by simpa using hj
       obtain⟨u,e1,e2⟩:=a5 j (by rw[hcl1];exact hj')
       have hjf:j<(rowV d).length:=by rw[dN];exact hj'
       have e3:((rowV d).map (AV.int .i64)).getD j undefA=.int .i64 (rowV d)[j]:=by simp[List.getD,hjf]
       rw[e3] at e2;cases e2;refine⟨?_,b3 j (by rw[a1,hcl1] at a2;omega)⟩;rw[Nat.add_zero,e1,aCa hk,getElem!_pos _ _ (by simpa using hjf)];simp
      have hblk:l.blk<w.heap.size:=by
       rcases Nat.lt_or_ge l.blk w.heap.size with h|h
       · exact h
       · rw[Array.getElem?_eq_none h] at b1;cases b1
      have hcon:=AnyQ.slices_SortFunc_eq L k aE zE (encV (k:=k)) encV_len (fun x v hv=>by obtain⟨n,_,rfl⟩:=List.mem_map.1 hv;rfl) cf hO gf #[] l.blk (l.base+0) cap' d.toArray w (fun args w=>yZ hfg args w) (cmpLays hg hcl _ _ _ _) hH hblk (by simpa using hd);rw[hD] at hcon;refine hcon.mono fun e w' he=>?_;obtain⟨rfl,n,os,rfl⟩:=he;have hup:=aGw hk (w:=w) (blk:=l.blk) (off:=l.base+0) (n:=n) (d':=D.toList) b1
      have hsp:splice ((rowV d).map (AV.int .i64)) 0 ((rowV D.toList).map (AV.int .i64))=(rowV D.toList).map (AV.int .i64):=by
       simp only[splice,List.take_zero,List.nil_append,Nat.zero_add];rw[List.drop_of_length_le (by simp[dN,hlen]),List.append_nil]
      obtain⟨r1,r2⟩:=hw.store hloc hget (VRs.ints (rowV D.toList)) (fun c hc=>by obtain⟨n,_,rfl⟩:=List.mem_map.1 hc;rfl) (by simp[dN,hlen]) hup;rw[hsp] at r1 r2
      have hgr:∀b,b<(putRowK encV k (Sort.ahead w n) l.blk (l.base+0) D.toList.toArray).heap.size→(grow (putRowK encV k (Sort.ahead w n) l.blk (l.base+0) D.toList.toArray) os).heap[b]?=(putRowK encV k (Sort.ahead w n) l.blk (l.base+0) D.toList.toArray).heap[b]?:=fun b hb=>by
       simp only[grow];rw[Array.getElem?_append_left hb]
      have e0:sortWorldK encV k w l.blk (l.base+0) n D os=grow (putRowK encV k (Sort.ahead w n) l.blk (l.base+0) D.toList.toArray) os:=by simp[sortWorldK]
      rw[e0];refine⟨G,r1.grow hgr,r2.trans (Ext.grow r1.imme hgr (by simp[grow]) .now),?_⟩;exact .tup _ [] rfl fun j hj=>absurd hj (Nat.not_lt_zero _)
theorem dS {P:Program} {g:Genv} {ρ:Ren} (L:SlLaysF0.n6 P ρ) {sf:FuncId} (hsf:sf=ρ.f 6) (hfs:FnOK P sf) (gf:FuncId) (H:Heap):Sound P g sf [.nilsl,.func (.func gf) [] []] H (.ret (.tup [])) H:=by
 subst hsf;refine⟨hfs,fun G w vs hw hvs=>?_⟩;obtain⟨hl,hv⟩:=hvs
 match vs,hl with
 |[u0,u1],_=>
  have v0:=hv 0 (by simp);simp only[List.getD_cons_zero] at v0;cases v0;refine(AnyF.slices_SortFunc_none L none 0 u1 w).mono fun e w' he=>?_;obtain⟨rfl,rfl⟩:=he;exact⟨G,hw,Ext.refl G H _,.tup _ [] rfl fun j hj=>absurd hj (Nat.not_lt_zero _)⟩
end Go.Av
