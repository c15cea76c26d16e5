/-
  Part of the proof of statement 14
-/
import Derived.Test.YtgggiembljfnhaaGreatDoorC02
import Derived.Maps.RangeRun
import Derived.RangeFuncLeaves
import Derived.RangeFuncSeq
import Derived.OrdersIn
import Derived.Orders
set_option linter.unusedVariables false
set_option linter.unusedSimpArgs false
set_option linter.unusedSimpArgs false
set_option linter.unusedSectionVars false
namespace Go.Av
open Go
def gY:Operand->Bool
 |.const _=>true
 |_=>false
def nK (P:Program) (g:aT) (op:BinOp) (t:TypeId) (x y:Operand):Option cZ:=
 match aX g x,aX g y with
 |some x',some y'=>
  if op=.eql\/op=.neq then
   match P.underlying t with
   |some .bool=>some (.eqb (op== .neq) x' y')
   |some (.struct _)|some (.array _ _)=>
    match lL P 60 t with
    |some ks=>if P.eqGuardType P.depth t=false then some (.eqf (op== .neq) ks x' y') else none
    |none=>none
   |some (.pointer _)=>some (.Xp (op== .neq) .ptr (gY x||gY y) x' y')
   |some (.interface _)=>some (.Xp (op== .neq) .Ww (gY x||gY y) x' y')
   |some (.slice _)=>some (.Xp (op== .neq) .sli (gY x||gY y) x' y')
   |some (.map _ _)=>some (.Xp (op== .neq) .mp (gY x||gY y) x' y')
   |some (.func _ _ _)=>some (.Xp (op== .neq) .fn (gY x||gY y) x' y')
   |_=>some (.bin op x' y')
  else some (.bin op x' y')
 |_,_=>none
def jY (P:Program) (g:aT) (src dst:TypeId) (x:Operand):Option cZ:=
 match aX g x with
 |some x'=>
  match P.underlying src,P.underlying dst with
  |some _,some (.int k)=>some (.JH k x')
  |some .string,some (.slice e)=>if P.underlying e matches some (.int .u8) then some (.wM x') else none
  |some (.slice e),some .string=>if P.underlying e matches some (.int .u8) then some (.yA x') else none
  |_,_=>none
 |none=>none
def gR (P:Program) (g:aT) (t:TypeId) (x:Operand) (lo hi mx:Option Operand):Option cZ:=
 match aX g x,kL g lo,kL g hi,kL g mx with
 |some x',some Vp,some zL,some jv=>
  match vC P t with
  |some (n,sz,_)=>some (.yJ n sz x' Vp zL jv)
  |none=>
   match kM P t with
   |some (_,sz)=>some (.Sx sz x' Vp zL jv)
   |none=>
    match P.underlying t,mx with
    |some .string,none=>some (.Kn x' Vp zL)
    |_,_=>none
 |_,_,_,_=>none
def nL (P:Program) (g:aT) (c:Call):Option cZ:=
 match c.args.toList,c.argTypes[0]? with
 |[x],some t=>
  match P.underlying t,aX g x with
  |some .string,some x'=>some (.lens x')
  |some (.slice _),some x'=>some (.GU x')
  |_,_=>none
 |_,_=>none
def fM (P:Program) (g:aT) (mu:Bool) (c:Call):Option cZ:=
 match c.args.toList,c.argTypes.toList with
 |[x,y],[t,t2]=>
  match aX g x,aX g y,kM P t with
  |some x',some y',some (e,sz)=>
   match P.info? e,jC P e,P.underlying t2 with
   |some _,some _,some (.int _)=>none
   |some i,some z,some _=>if 1<=i.bytes/\z.cells.size=sz then some (.append sz i.bytes mu x' y') else none
   |_,_,_=>none
  |_,_,_=>none
 |_,_=>none
def lA (P:Program) (g:aT) (mu:Bool) (c:Call):Option cZ:=
 match c.callee with
 |.builtin .len=>nL P g c
 |.builtin .append=>fM P g mu c
 |.builtin .copy=>match c.args.toList,c.argTypes[0]? with
  |[x,y],some t=>match aX g x,aX g y,kM P t with
   |some x',some y',some (_,sz)=>some (.copy sz x' y')
   |_,_,_=>none
  |_,_=>none
 |.value f=>match aX g f,lH g c.args.toList with
  |some f',some azs=>some (.call f' azs)
  |_,_=>none
 |.builtin .max=>match c.args.toList with
  |[x,y]=>match aX g x,aX g y with
   |some x',some y'=>some (.QA x' y')
   |_,_=>none
  |_=>none
 |.builtin .min=>match c.args.toList with
  |[x,y]=>match aX g x,aX g y with
   |some x',some y'=>some (.QC x' y')
   |_,_=>none
  |_=>none
 |.builtin .clear=>match c.args.toList,c.argTypes[0]? with
  |[x],some t=>match aX g x,kM P t with
   |some x',some (e,sz)=>match jC P e with
    |some z=>(gK z.cells.toList).map fun zs=>.zw sz zs x'
    |none=>none
   |_,_=>none
  |_,_=>none
 |_=>none
def Uc (P:Program) (t:TypeId):Option AV:=
 match jC P t with
 |some z=>ofConst z
 |none=>none
def JI (P:Program) (g:aT) (mu:Bool) (o:Oper):Option cZ:=
 match o.op with
 |.move x|.assign x=>(aX g x).map .CI
 |.pick c x y=>match aX g c,aX g x,aX g y with
  |some c',some x',some y'=>some (.pick c' x' y')
  |_,_,_=>none
 |.alloc t=>match jC P t with
  |some z=>(gK z.cells.toList).map .alloc
  |none=>none
 |.box _ x=>(aX g x).map .box
 |.build t parts=>match jC P t with
  |some z=>match gK z.cells.toList,P.underlying t with
   |some zs,some (.struct fs)=>match CN P fs.toList with
    |some l=>(rG g (l[·]?) parts.toList).map (.build zs)
    |none=>none
   |some zs,some (.array _ e)=>match hZ P e with
    |some sz=>(rG g (fun i=>some (i*sz,sz)) parts.toList).map (.build zs)
    |none=>none
   |_,_=>none
  |none=>none
 |.buildSlice t len parts=>match kM P t with
  |some (e,sz)=>match jC P e,CD g 0 parts.toList with
   |some _,some ys=>if len=parts.size/\len*sz<=2^24 then(if OB mu sz ys=true then some (.gM 1 1 [.str []] (.const (.int .i64 1)) (.const (.int .i64 1))) else some (.KK sz ys)) else none
   |_,_=>none
  |none=>none
 |.load t x=>match aX g x,eO P t,hZ P t with
  |some x',some agg,some n=>some (.load agg n x')
  |_,_,_=>none
 |.store t x y=>match aX g x,aX g y,hZ P t with
  |some x',some y',some n=>some (.store n x' y')
  |_,_,_=>none
 |.nilCheck x=>(aX g x).map .KM
 |.binOp op t x y _=>nK P g op t x y
 |.unOp op _ x=>(aX g x).map (.un op)
 |.convert src dst x=>jY P g src dst x
 |.sliceToArrayPointer t x=>match aX g x,P.underlying t with
  |some x',some (.array n _)=>some (.Sw n x')
  |_,_=>none
 |.makeInterface t x=>match aX g x,P.underlying t with
  |some _,some (.interface _)=>none
  |some x',some _=>some (.SV t x')
  |_,_=>none
 |.makeFunc fn fs cs=>match lH g fs.toList,lH g cs.toList with
  |some fs',some vI=>some (.SU fn fs' vI)
  |_,_=>none
 |.makeMap t r=>match P.underlying t,r with
  |some (.map _ _),none=>some .uJ
  |some (.map _ _),some (.const (.int _ _))=>some .uJ
  |_,_=>none
 |.makeSlice t x y=>match aX g x,aX g y,kM P t with
  |some x',some y',some (e,sz)=>match P.info? e,jC P e with
   |some i,some z=>match gK z.cells.toList with
    |some zs=>if 1<=sz/\1<=i.bytes then some (.gM sz i.bytes zs x' y') else none
    |none=>none
   |_,_=>none
  |_,_,_=>none
 |.slice t x lo hi mx=>gR P g t x lo hi mx
 |.fieldAddr t x i=>match aX g x,Rv P t i with
  |some x',some (off,_,_)=>some (.Ru off x')
  |_,_=>none
 |.indexAddr t x i=>match aX g x,aX g i with
  |some x',some i'=>match vC P t with
   |some (n,sz,_)=>some (.Nl (some n) sz x' i')
   |none=>match kM P t with
    |some (_,sz)=>some (.Nl none sz x' i')
    |none=>none
  |_,_=>none
 |.index t x i=>match aX g x,aX g i with
  |some x',some i'=>match vC P t with
   |some (n,sz,b)=>some (.idx n sz b x' i')
   |none=>if P.underlying t matches some .string then some (.idxs x' i') else none
  |_,_=>none
 |.lookup t x i ok=>match aX g x,aX g i,P.underlying t with
  |some x',some i',some (.map kt vt)=>match BX P kt,Uc P vt with
   |some k,some z=>some (.lookup k z ok x' i')
   |_,_=>none
  |_,_,_=>none
 |.mapUpdate t m i x|.insert t m i x=>match aX g m,aX g i,aX g x,P.underlying t with
  |some m',some i',some x',some (.map kt _)=>(BX P kt).map fun k=>.KH k m' i' x'
  |_,_,_,_=>none
 |.typeAssert x _ t ok=>match aX g x,P.underlying t,Uc P t with
  |some _,some (.interface _),_=>none
  |some x',some _,some z=>some (.TE t ok z x')
  |_,_,_=>none
 |.extract x i=>(aX g x).map fun x'=>.Rr x' i
 |.range t x=>match aX g x,P.underlying t with
  |some x',some (.map _ _)=>some (.rF x')
  |_,_=>none
 |.next x s=>match aX g x,s with
  |some x',false=>some (.yE x')
  |_,_=>none
 |.entry x=>(aX g x).map .tX
 |.call c=>lA P g mu c
 |.panic x=>(aX g x).map .panic
 |.defer c=>match c.callee with
  |.value f=>match aX g f,lH g c.args.toList with
   |some f',some azs=>some (.iH f' azs)
   |_,_=>none
  |_=>none
 |_=>none
def cZ.plain:cZ->Bool
 |.call _ _|.panic _|.iH _ _|.rF _|.yE _|.tX _=>false
 |_=>true
theorem Xq {op:BinOp} (h:op=.eql\/op=.neq):op=if(op== .neq) then .neq else .eql:=by rcases h with rfl|rfl<;>rfl
theorem Qe {P:Program} {f:Nat} {t:TypeId} {ks:List Sk} (h:lL P f t=some ks) {d:TypeDesc} (hu:P.underlying t=some d) (hd:(∃fs,d=.struct fs)\/∃n e,d=.array n e):eO P t=some true:=by
 unfold eO
 rcases hd with ⟨fs,rfl⟩|⟨n,e,rfl⟩<;>rw[hu]
theorem VI {P:Program} {g:aT} {o:Oper} {op:BinOp} {t t2:TypeId} {x y:Operand} {r:cZ} (ho:o.op=.binOp op t x y t2) (h:nK P g op t x y=some r):bT P g o r:=by
 have hl:(gY x||gY y)=true->(∃c,x=.const c)\/∃c,y=.const c:=fun hh=>by cases x<;>cases y<;>simp[gY] at hh ⊢
 have nk:∀{d:TypeDesc} {k:Nk},P.underlying t=some d->(match (some d:Option TypeDesc) with|some (.pointer _)=>some Nk.ptr|some (.interface _)=>some .Ww|some (.slice _)=>some .sli|some (.map _ _)=>some .mp|some (.func _ _ _)=>some .fn|_=>none)=some k->nkP P t=some k:=fun hu hk=>by unfold nkP;rw[hu];exact hk
 unfold nK at h;split at h
 . rename_i x' y' hx hy;split at h
   . rename_i eK
     split at h<;>rename_i hu<;>first
      |(obtain rfl:=Aa h;exact aCb ho (Xq eK) hu hx hy)
      |(obtain rfl:=Aa h;exact aCd ho (Xq eK) (nk hu rfl) hl hx hy)
      |(split at h
        . rename_i ks hks;split at h
          . rename_i hg;obtain rfl:=Aa h;exact aCc ho (Xq eK) (by omega) hks (Qe hks hu (by first|exact .inl ⟨_,rfl⟩|exact .inr ⟨_,_,rfl⟩)) hg hx hy
          cases h
        cases h)
      |(obtain rfl:=Aa h;exact Yq ho hx hy)
   obtain rfl:=Aa h;exact Yq ho hx hy
 cases h
theorem Re {P:Program} {g:aT} {o:Oper} {src dst:TypeId} {x:Operand} {r:cZ} (ho:o.op=.convert src dst x) (h:jY P g src dst x=some r):bT P g o r:=by
 unfold jY at h;split at h
 . rename_i x' hx;split at h
   . rename_i d k hs hd;obtain rfl:=Aa h;exact Yr ho hx hs hd
   . rename_i e hs hd;split at h
     . rename_i he;obtain rfl:=Aa h;exact Yx ho hx hs hd he
     cases h
   . rename_i e hs hd;split at h
     . rename_i he;obtain rfl:=Aa h;exact Yp ho hx hs hd he
     cases h
   cases h
 cases h
theorem PF {P:Program} {g:aT} {o:Oper} {t:TypeId} {x:Operand} {lo hi mx:Option Operand} {r:cZ} (ho:o.op=.slice t x lo hi mx) (h:gR P g t x lo hi mx=some r):bT P g o r:=by
 unfold gR at h;split at h
 . rename_i x' Vp zL jv hx RB gh hmx;split at h
   . rename_i n sz b ht;obtain rfl:=Aa h;exact Yu ho hx RB gh hmx ht
   split at h
   . rename_i e sz ht;obtain rfl:=Aa h;exact km ho hx RB gh hmx ht
   split at h
   . rename_i ht;obtain rfl:=Aa h;exact Yv ho hx RB gh ht
   cases h
 cases h
theorem JA {c:Call} {x:Operand} (h:c.args.toList=[x]):c.args= #[x]:=by apply Dv;simpa using h
theorem AX {c:Call} {x y:Operand} (h:c.args.toList=[x,y]):c.args= #[x,y]:=by apply Dv;simpa using h
theorem VJ {P:Program} {g:aT} {o:Oper} {c:Call} {r:cZ} (ho:o.op=.call c) (hc:c.callee=.builtin .len) (h:nL P g c=some r):bT P g o r:=by
 unfold nL at h;split at h
 . rename_i x t ha LU;split at h
   . rename_i x' ht hx;obtain rfl:=Aa h;exact kd ho hc (JA ha) hx LU ht
   . rename_i e x' ht hx;obtain rfl:=Aa h;exact kc ho hc (JA ha) hx LU ht
   cases h
 cases h
theorem NO {P:Program} {g:aT} {mu:Bool} {o:Oper} {c:Call} {r:cZ} (ho:o.op=.call c) (hc:c.callee=.builtin .append) (h:fM P g mu c=some r):bT P g o r:=by
 unfold fM at h;split at h
 . rename_i x y t t2 ha LU;have aKd:c.argTypes= #[t,t2]:=by apply Dv;simpa using LU
   split at h
   . rename_i x' y' e sz hx hy ht;obtain⟨hu,jE⟩:=iE ht;split at h
     . cases h
     . rename_i i z d hd hi hz h2;split at h
       . rename_i gG;obtain rfl:=Aa h;exact Vu ho hc (AX ha) hx hy aKd hu jE h2 (fun k he=>hd k he) hi gG.1 hz gG.2
       cases h
     cases h
   cases h
 cases h
theorem LA {P:Program} {t:TypeId} {z:AV} (h:Uc P t=some z):∃zv,jC P t=some zv/\ofConst zv=some z:=by
 unfold Uc at h;split at h
 . rename_i zv hz;exact⟨zv,hz,h⟩
 cases h
theorem Rg {P:Program} {g:aT} {mu:Bool} {o:Oper} {r:cZ} (h:JI P g mu o=some r) (hp:r.plain=true):bT P g o r:=by
 unfold JI at h;split at h
 . rename_i x ho;simp only[Af] at h;obtain⟨x',hx,rfl⟩:=h;exact UO (.inl ho) hx
 . rename_i x ho;simp only[Af] at h;obtain⟨x',hx,rfl⟩:=h;exact UO (.inr ho) hx
 . rename_i c x y ho;split at h
   . rename_i c' x' y' hc hx hy;obtain rfl:=Aa h;exact kj ho hc hx hy
   cases h
 . rename_i t ho;split at h
   . rename_i z hz;simp only[Af] at h;obtain⟨zs,zT,rfl⟩:=h;exact Yo ho hz zT
   cases h
 . rename_i t x ho;simp only[Af] at h;obtain⟨x',hx,rfl⟩:=h;exact aBz ho hx
 . rename_i t parts ho;split at h
   . rename_i z hz;split at h
     . rename_i zs fs zT hu;split at h
       . rename_i l hl;simp only[Af] at h;obtain⟨ps,il,rfl⟩:=h;exact GV ho hu hz zT hl il
       cases h
     . rename_i zs n e zT hu;split at h
       . rename_i sz jE;simp only[Af] at h;obtain⟨ps,il,rfl⟩:=h;exact KP ho hu jE hz zT il
       cases h
     cases h
   cases h
 . rename_i t len parts ho;split at h
   . rename_i e sz ht;split at h
     . rename_i z ys hz HR;split at h
       . rename_i gG;split at h
         . rename_i hr;obtain rfl:=Aa h;exact Vv ho ht hz gG.1 gG.2 HR hr
         obtain rfl:=Aa h;exact Ys ho ht hz gG.1 gG.2 HR
       cases h
     cases h
   cases h
 . rename_i t x ho;split at h
   . rename_i x' agg n hx oJ hn;obtain rfl:=Aa h;exact ke ho hx oJ hn
   cases h
 . rename_i t x y ho;split at h
   . rename_i x' y' n hx hy hn;obtain rfl:=Aa h;exact Yw ho hx hy hn
   cases h
 . rename_i x ho;simp only[Af] at h;obtain⟨x',hx,rfl⟩:=h;exact Yt ho hx
 . rename_i op t x y t2 ho;exact VI ho h
 . rename_i op t x ho;simp only[Af] at h;obtain⟨x',hx,rfl⟩:=h;exact aJa ho hx
 . rename_i src dst x ho;exact Re ho h
 . rename_i t x ho;split at h
   . rename_i x' n e hx ht;obtain rfl:=Aa h;exact kl ho hx ht
   cases h
 . rename_i t x ho;split at h
   . cases h
   . rename_i x' d qg hx ht;obtain rfl:=Aa h;refine ki ho hx ?_;rw[ht]
     cases d<;>first|rfl|exact absurd rfl (qg _)
   cases h
 . rename_i fn fs cs ho;split at h
   . rename_i fs' vI hf hc;obtain rfl:=Aa h;exact kh ho hf hc
   cases h
 . rename_i t rr ho;split at h
   . rename_i k v ht;obtain rfl:=Aa h;exact QJ ho ht (.inl rfl)
   . rename_i k v j n ht;obtain rfl:=Aa h;exact QJ ho ht (.inr ⟨_,_,rfl⟩)
   cases h
 . rename_i t x y ho;split at h
   . rename_i x' y' e sz hx hy ht;split at h
     . rename_i i z hi hz;split at h
       . rename_i zs zT;split at h
         . rename_i gG;obtain rfl:=Aa h;exact Sf ho hx hy ht hi hz zT gG.1 gG.2
         cases h
       cases h
     cases h
   cases h
 . rename_i t x lo hi mx ho;exact PF ho h
 . rename_i t x i ho;split at h
   . rename_i x' off n b hx hf;obtain rfl:=Aa h;exact ka ho hx hf
   cases h
 . rename_i t x i ho;split at h
   . rename_i x' i' hx hi;split at h
     . rename_i n sz b ht;obtain rfl:=Aa h;exact QH ho hx hi ht
     split at h
     . rename_i e sz ht;obtain rfl:=Aa h;exact Se ho hx hi ht
     cases h
   cases h
 . rename_i t x i ho;split at h
   . rename_i x' i' hx hi;split at h
     . rename_i n sz b ht;obtain rfl:=Aa h;exact aCe ho hx hi ht
     split at h
     . rename_i xU;obtain rfl:=Aa h;exact kb ho hx hi xU
     cases h
   cases h
 . rename_i t x i ok ho;split at h
   . rename_i x' i' kt vt hx hi ht;split at h
     . rename_i k z hk hz;obtain rfl:=Aa h;obtain⟨zv,hz1,hz2⟩:=LA hz;exact Vw ho hx hi ht hk hz1 hz2
     cases h
   cases h
 . rename_i t m i x ho;split at h
   . rename_i m' i' x' kt vt hm hi hx ht;simp only[Af] at h;obtain⟨k,hk,rfl⟩:=h;exact QI (.inl ho) hm hi hx ht hk
   cases h
 . rename_i t m i x ho;split at h
   . rename_i m' i' x' kt vt hm hi hx ht;simp only[Af] at h;obtain⟨k,hk,rfl⟩:=h;exact QI (.inr ho) hm hi hx ht hk
   cases h
 . rename_i x ti t ok ho;split at h
   . cases h
   . rename_i x' d z qg hx ht hz;obtain rfl:=Aa h;obtain⟨zv,hz1,hz2⟩:=LA hz;exact kp ho hx ht (fun ms he=>qg ms he) hz1 hz2
   cases h
 . rename_i x i ho;simp only[Af] at h;obtain⟨x',hx,rfl⟩:=h;exact j9 ho hx
 . rename_i t x ho;split at h
   . obtain rfl:=Aa h;cases hp
   cases h
 . rename_i x st ho;split at h
   . obtain rfl:=Aa h;cases hp
   cases h
 . rename_i x ho;simp only[Af] at h;obtain⟨x',hx,rfl⟩:=h;cases hp
 . rename_i c ho;unfold lA at h;split at h
   . rename_i hc;exact VJ ho hc h
   . rename_i hc;exact NO ho hc h
   . rename_i hc;split at h
     . rename_i x y t ha LU;split at h
       . rename_i x' y' e sz hx hy ht;obtain rfl:=Aa h;obtain⟨hu,jE⟩:=iE ht;exact j8 ho hc (AX ha) hx hy LU hu jE
       cases h
     cases h
   . rename_i f hc;split at h
     . obtain rfl:=Aa h;cases hp
     cases h
   . rename_i hc;split at h
     . rename_i x y ha;split at h
       . rename_i x' y' hx hy;obtain rfl:=Aa h;exact kf ho hc (AX ha) hx hy
       cases h
     cases h
   . rename_i hc;split at h
     . rename_i x y ha;split at h
       . rename_i x' y' hx hy;obtain rfl:=Aa h;exact kg ho hc (AX ha) hx hy
       cases h
     cases h
   . rename_i hc;split at h
     . rename_i x t ha LU;split at h
       . rename_i x' e sz hx ht;obtain⟨hu,jE⟩:=iE ht;split at h
         . rename_i z hz;simp only[Af] at h;obtain⟨zs,zT,rfl⟩:=h;exact aCa ho hc (JA ha) hx LU hu hz zT
         cases h
       cases h
     cases h
   cases h
 . rename_i x ho;simp only[Af] at h;obtain⟨x',hx,rfl⟩:=h;cases hp
 . rename_i c ho;split at h
   . split at h
     . obtain rfl:=Aa h;cases hp
     cases h
   cases h
 cases h
def cZ.fresh:cZ->Bool
 |.alloc _|.box _|.uJ|.gM _ _ _ _ _|.wM _=>true
 |_=>false
theorem eg {P:Program} {g:aT} {mu:Bool} {o:Oper} {r:cZ} (h:JI P g mu o=some r) (hp:r.fresh=true):xY P g o r:=by
 unfold JI at h;split at h
 case h_4=>
  rename_i t ho;split at h
  . rename_i z hz;simp only[Af] at h;obtain⟨zs,zT,rfl⟩:=h;exact MC ho hz zT
  cases h
 case h_5=>rename_i t x ho;simp only[Af] at h;obtain⟨x',hx,rfl⟩:=h;exact Ti ho hx
 case h_7=>
  rename_i t len parts ho;split at h
  . rename_i e sz ht;split at h
    . rename_i z ys hz HR;split at h
      . rename_i gG;split at h
        . rename_i hr;obtain rfl:=Aa h;exact JU ho ht hz gG.1 gG.2 HR hr
        obtain rfl:=Aa h;cases hp
      cases h
    cases h
  cases h
 case h_13=>
  rename_i src dst x ho;unfold jY at h;split at h
  . rename_i x' hx;split at h
    . obtain rfl:=Aa h;cases hp
    . rename_i e hs hd;split at h
      . rename_i he;obtain rfl:=Aa h;exact MD ho hx hs hd he
      cases h
    . split at h
      . obtain rfl:=Aa h;cases hp
      cases h
    cases h
  cases h
 case h_17=>
  rename_i t rr ho;split at h
  . rename_i k v ht;obtain rfl:=Aa h;exact EA ho ht (.inl rfl)
  . rename_i k v j n ht;obtain rfl:=Aa h;exact EA ho ht (.inr ⟨_,_,rfl⟩)
  cases h
 case h_18=>
  rename_i t x y ho;split at h
  . rename_i x' y' e sz hx hy ht;split at h
    . rename_i i z hi hz;split at h
      . rename_i zs zT;split at h
        . rename_i gG;obtain rfl:=Aa h;exact FP ho hx hy ht hi hz zT gG.1 gG.2
        cases h
      cases h
    cases h
  cases h
 all_goals exfalso
 all_goals (try unfold nK at h)
 all_goals (try unfold gR at h)
 all_goals (try unfold lA at h)
 all_goals (try unfold nL at h)
 all_goals (try unfold fM at h)
 all_goals repeat' (split at h)
 all_goals first
  |(cases h;done)
  |(obtain rfl:=Aa h;cases hp)
  |(simp only[Af] at h;obtain⟨_,_,rfl⟩:=h;cases hp)
inductive Out where
 |ret (v:AV)
 |pA (v:AV)
def LJ (G:Gh) (w:World):Out->Ending->Prop
 |.ret v,.returned u=>VR G w v u
 |.pA v,.panicked chain=>∃u,chain=[{v:=u,recovered:=false}]/\VR G w v u
 |_,_=>False
def IN (P:Program) (f:FuncId):Prop:=∃fn,P.funcs[f]?=some fn/\fn.body.isSome=true/\(fn.name== "runtime.NumGoroutine")=false
def Sound (P:Program) (g:aT) (f:FuncId) (args:List AV) (H:aA) (out:Out) (H':aA):Prop:=
 IN P f/\∀(G:Gh) (w:World) (vs:List Value),WR g G H w->fJ G w args vs->
  Calls P f vs.toArray w fun e w'=>∃G',WR g G' H' w'/\Ext G H w G' H' w'/\LJ G' w' out e
def Fw (ro:Option Nat):Fence:={Fence.wide with round:=ro}
def yQ (P:Program) (g:aT) (id:Nat) (args:List AV) (H:aA) (out:Out) (H':aA):Prop:=
 ∀(G:Gh) (w:World) (vs:List Value) (l:Loc),WR g G H w->fJ G w args vs->G.loc id=some l->
  YieldAt Fence.wide 0 P l.cC vs.toArray w fun e w'=>∃G',WR g G' H' w'/\Ext G H w G' H' w'/\LJ G' w' out e
inductive eX where
 |call (f:FuncId) (azs:List AV)
 |mark (id:Nat)
inductive Uf where
 |normal
 |exit (id:Nat)
 |ret
 |panic (v:AV)
def bF (s:List AV) (o:aN):Bool:=
 match o.guard with
 |none=>true
 |some (d,b)=>match s.getD d aC with
  |.bool c=>c==b
  |_=>false
def jF (s:List AV) (dst:Option Nat) (v:AV):List AV:=
 match dst with
 |none=>s
 |some d=>s.set d v
def iG:AV->Option (FuncId×List AV×List AV)
 |.func (.func f) fs cs=>some (f,fs,cs)
 |_=>none
def Lg (P:Program) (g:aT) (fv:AV) (args:List AV) (H:aA) (out:Out) (H':aA):Prop:=
 (∃p,iG fv=some p/\Sound P g p.1 (p.2.1++args++p.2.2) H out H')\/(∃id,fv=.yield id/\yQ P g id args H out H')
abbrev AQ:=Uf->List AV->List eX->aA->Prop
def pY (P:Program) (g:aT):List aN->List AV->List eX->aA->AQ->Prop
 |[],s,ds,H,Q=>Q .normal s ds H
 |o::r,s,ds,H,Q=>
  if bF s o then
   match o.op with
   |.call f azs=>∃out H',Lg P g (f.eval g s) (azs.map (Arg.eval g s)) H out H'/\
     match out with
     |.ret v=>pY P g r (jF s o.dst v) ds H' Q
     |.pA v=>Q (.panic v) s ds H'
   |.panic x=>∃t v,x.eval g s=.iface t v/\Q (.panic (.iface t v)) s ds H
   |.iH f azs=>∃p,iG (f.eval g s)=some p/\pY P g r (jF s o.dst aC) (.call p.1 (p.2.1++azs.map (Arg.eval g s)++p.2.2)::ds) H Q
   |.rF x=>∃m es,x.eval g s=.map m/\H.get m=some (.map es)/\∀bs c mb,bs.length=es.length->bs.Nodup->
     pY P g r (jF s o.dst (.ref H.next 0)) ds ((H.set m (.pQ es bs c mb)).alloc (.iter m mb c [])) Q
   |.yE x=>∃it m mb c seen es bs,x.eval g s=.ref it 0/\H.get it=some (.iter m mb c seen)/\H.get m=some (.pQ es bs c mb)/\
     ((∀b∈bs,b∈seen)->pY P g r (jF s o.dst (.eZ [.bool false])) ds H Q)/\
     ∀j,j<bs.length->bs.getD j 0∉seen->pY P g r (jF s o.dst (.eZ [.bool true,(es.getD j (aC,aC)).1,(es.getD j (aC,aC)).2])) ds (H.set it (.iter m mb c (seen++[bs.getD j 0]))) Q
   |.tX x=>∃it m mb c seen es bs j,x.eval g s=.ref it 0/\H.get it=some (.iter m mb c (seen++[bs.getD j 0]))/\H.get m=some (.pQ es bs c mb)/\j<bs.length/\
     pY P g r (jF s o.dst (.eZ [(es.getD j (aC,aC)).1,(es.getD j (aC,aC)).2])) ds H Q
   |op=>∃v H',cD (Arg.eval g s) H op=some (v,H')/\pY P g r (jF s o.dst v) ds H' Q
  else pY P g r (jF s o.dst aC) ds H Q
def NA (G:Gh) (w:World):List eX->List Deferred->Prop
 |[],[]=>True
 |.call f azs::ds,d::r=>(∃cap:List Value,d.target=.fn (.func f) cap.toArray/\fJ G w azs (d.args.toList++cap))/\NA G w ds r
 |.mark id::ds,d::r=>(∃l,G.loc id=some l/\d.target=.collected l.cC)/\NA G w ds r
 |_,_=>False
theorem NA.ext {G G':Gh} {H H':aA} {w w':World} (e:Ext G H w G' H' w'):∀{ds:List eX} {l:List Deferred},NA G w ds l->NA G' w' ds l
 |[],[],_=>trivial
 |.call f azs::ds,d::r,h=>⟨let⟨cap,h1,h2⟩:=h.1;⟨cap,h1,h2.ext e⟩,NA.ext e h.2⟩
 |.mark id::ds,d::r,h=>⟨let⟨l,h1,h2⟩:=h.1;⟨l,e.loc _ _ h1,h2⟩,NA.ext e h.2⟩
 |[],_::_,h=>h.elim
 |.call _ _::_,[],h=>h.elim
 |.mark _::_,[],h=>h.elim
def ExR (G:Gh) (w:World):Uf->Exit->Prop
 |.normal,.normal=>True
 |.exit i,.exit j=>i=j
 |.ret,.ret=>True
 |.panic v,.panic chain=>∃u,chain=[{v:=u,recovered:=false}]/\VR G w v u
 |_,_=>False
def QR (g:aT) (G:Gh) (H:aA) (w:World) (Q:AQ):Exit->Act->World->Prop:=fun e a' w'=>∃ae s' eC H' G',Q ae s' eC H'/\WR g G' H' w'/\Ext G H w G' H' w'/\SR G' w' s' a'/\NA G' w' eC a'.defers/\ExR G' w' ae e
theorem QR.trans {g:aT} {G G1:Gh} {H H1:aA} {w w1:World} {Q:AQ} (e:Ext G H w G1 H1 w1) {x:Exit} {a:Act} {w':World} (h:QR g G1 H1 w1 Q x a w'):QR g G H w Q x a w':=
 let⟨ae,s',eC,H',G',q,hw,he,hs,hd,hx⟩:=h
 ⟨ae,s',eC,H',G',q,hw,e.trans he,hs,hd,hx⟩
def FH (P:Program) (g:aT) (mu:Bool) (ops:Array Oper) (o:Oper):Option aN:=
 match JI P g mu o with
 |some r=>
  match o.guard with
  |none=>some ⟨o.dst,r,none⟩
  |some (j,b)=>match (ops[j]?).bind (·.dst) with
   |some d=>some ⟨o.dst,r,some (d,b)⟩
   |none=>none
 |none=>none
def iU (P:Program) (g:aT) (mu:Bool) (ops:Array Oper):List Oper->Option (List aN)
 |[]=>some []
 |o::r=>match FH P g mu ops o,iU P g mu ops r with
  |some x,some xs=>some (x::xs)
  |_,_=>none
theorem yT {P:Program} {g:aT} {mu:Bool} {ops:Array Oper} {o:Oper} {r:aN} (h:FH P g mu ops o=some r):r.dst=o.dst/\JI P g mu o=some r.op/\
 ((o.guard=none/\r.guard=none)\/∃j b d,o.guard=some (j,b)/\(ops[j]?).bind (·.dst)=some d/\r.guard=some (d,b)):=by
 unfold FH at h;split at h
 . rename_i r' hr;split at h
   . rename_i hg;obtain rfl:=Aa h;exact⟨rfl,hr,.inl ⟨hg,rfl⟩⟩
   rename_i j b hg;split at h
   . rename_i d hd;obtain rfl:=Aa h;exact⟨rfl,hr,.inr ⟨j,b,d,hg,hd,rfl⟩⟩
   cases h
 cases h
theorem VR.XV {G:Gh} {w:World} {v:AV} {u:Value} (h:VR G w v u) (b:Bool):v=.bool b↔u=.bool b:=by
 constructor
 . rintro rfl;exact h.gO
 rintro rfl;cases h;rfl
theorem xQ (a:Array Value) (d:Nat) (b:Bool):a[d]?=some (.bool b)↔a.getD d undef=.bool b:=by
 rw[Ba]
 cases h:a[d]? with
 |none=>simp[undef]
 |some v=>simp
theorem Kw {P:Program} {g:aT} {mu:Bool} {ops:Array Oper} {o:Oper} {r:aN} (h:FH P g mu ops o=some r) {G:Gh} {w:World} {s:List AV} {a:Act} (hs:SR G w s a):
 Region.wanted o (yielded ops a.tmps)=bF s r:=by
 obtain⟨_,_,hg⟩:=yT h
 rcases hg with ⟨h1,h2⟩|⟨j,b,d,h1,h2,h3⟩
 . simp[Region.wanted,bF,h1,h2]
 simp only[Region.wanted,bF,h1,h3,yielded,h2,Option.bind_some];have hv:=hs.getD d
 have key:∀c,s.getD d aC=.bool c↔a.tmps[d]?=some (.bool c):=fun c=>by rw[xQ];exact hv.XV c
 cases hsd:s.getD d aC with
 |bool c=>rw[(key c).1 hsd];simp
 |_=>
  have :∀c,a.tmps[d]?≠some (.bool c):=fun c hc=>by have :=(key c).2 hc;rw[hsd] at this;cases this
  split
  . rename_i c hc;exact absurd hc (this c)
  rfl
theorem SR.put {G:Gh} {w:World} {s:List AV} {a:Act} (h:SR G w s a) (dst:Option Nat) {v:AV} {u:Value} (hv:VR G w v u):SR G w (jF s dst v) (a.put dst u):=by
 cases dst with
 |none=>exact h
 |some d=>
  have hl:=h.1;refine⟨by simpa [jF,Act.put] using hl,fun j hj=>?_⟩;simp only[jF,Ho] at hj;simp only[Cm] at hl;have HQ:j<a.tmps.size:=by omega
  simp only[jF,Act.put];rw[fH,getD_eq,Eh,En];by_cases hd:d=j
  . subst hd;simp only[if_true,hj,HQ,Bb];exact hv
  rw[if_neg hd,if_neg hd];have :=h.2 j hj
  rwa [fH] at this
theorem SR.ext {G G':Gh} {H H':aA} {w w':World} {s:List AV} {a:Act} (h:SR G w s a) (e:Ext G H w G' H' w'):SR G' w' s a:=fJ.ext h e
theorem yR {G:Gh} {w:World} {v:AV} {u:Value} {p:FuncId×List AV×List AV} (h:iG v=some p) (hv:VR G w v u):
 ∃azs bs:List Value,u=.func (.func p.1) azs.toArray bs.toArray/\fJ G w p.2.1 azs/\fJ G w p.2.2 bs:=by
 cases v<;>simp only[iG] at h<;>try (cases h;done)
 rename_i fn fs cs
 cases fn<;>simp only[] at h<;>first|(cases h;done)|skip
 obtain rfl:=Aa h
 cases hv with
 |func _ _ _ azs bs ha hb hav OS=>exact⟨azs,bs,rfl,⟨ha,hav⟩,⟨hb,OS⟩⟩
theorem sY {P:Program} {ρ:Operand->Value} {c:Call} {t:TypeId} {f:Operand} {fid:FuncId} {azs bs:List Value} (hc:c.callee=.value f) (hf:ρ f=.func (.func fid) azs.toArray bs.toArray) (w:World):
 (resolve ρ c t).run P w=.ok {target:=.fn (.func fid) bs.toArray,args:=azs.toArray++c.args.map ρ} w:=by
 simp[resolve,hc,hf,Deferred.ofValue]
theorem lC {P:Program} {fid:FuncId} (vS:IN P fid) (args:Array Value) (cap:Array Value) (w:World):(invoke (.fn (.func fid) cap) args).run P w=.ok (.enter fid (args++cap)) w:=by
 obtain⟨fn,h1,h2,h3⟩:=vS;have hb:¬fn.body=none:=fun hh=>by rw[hh] at h2;cases h2
 have h3':¬fn.name= "runtime.NumGoroutine" :=by simpa using h3
 simp[invoke,callFunc,program,Sem.run,h1,h3',hb]
theorem JC {ro:Option Nat} {n:Nat} {P:Program} {f:FuncId} {args:Array Value} {w:World} {R:Ending->World->Prop} (h:Calls P f args w R):CallsIn (Fw ro) n P f args w R:=
 (callsIn_wide (n:=n)).2 h
theorem wB {ro:Option Nat} {n:Nat}:(Fw ro).depth.isSome=true->1<=n:=fun h=>by cases h
def XX (next:Act->World->Prop) (Q:Exit->Act->World->Prop) (a:Act) (d:Option Nat):Ending->World->Prop
 |.returned v,w=>next (a.put d v) w
 |.panicked chain,w=>Q (.panic chain) a w
 |.outgrown,_=>LetsOut Q
theorem Lo {g:aT} {o:Oper} {G:Gh} {H H':aA} {w:World} {a:Act} {out:Out} {next:Act->World->Prop} {Q:Exit->Act->World->Prop}
 (hn:∀v,out=.ret v->∀u w' G',WR g G' H' w'->Ext G H w G' H' w'->VR G' w' v u->next (a.put o.dst u) w')
 (hx:∀v,out=.pA v->∀u w' G',WR g G' H' w'->Ext G H w G' H' w'->VR G' w' v u->Q (.panic [{v:=u,recovered:=false}]) a w') (e:Ending) (w':World)
 (he:∃G',WR g G' H' w'/\Ext G H w G' H' w'/\LJ G' w' out e):
 XX next Q a o.dst e w':=by
 obtain⟨G',jG,tO,oV⟩:=he
 cases out with
 |ret v=>
  cases e with
  |returned u=>exact hn v rfl u w' G' jG tO oV
  |panicked _=>exact oV.elim
  |outgrown=>exact oV.elim
 |pA v=>
  cases e with
  |returned _=>exact oV.elim
  |panicked chain=>obtain⟨u,rfl,hv⟩:=oV;exact hx v rfl u w' G' jG tO hv
  |outgrown=>exact oV.elim
theorem aa {G:Gh} {w:World} {id:Nat} {u:Value} (h:VR G w (.yield id) u):∃l,G.loc id=some l/\u=.func (.yield l.cC) #[] #[]:=by
 cases h with
 |yield _ l hl=>exact⟨l,hl,rfl⟩
theorem OP {P:Program} {g:aT} {ro:Option Nat} {o:Oper} {c:Call} {f:Operand} {f':Arg} {VB:List Arg} (ho:o.op=.call c) (hc:c.callee=.value f) (hf:aX g f=some f') (has:lH g c.args.toList=some VB)
 {G:Gh} {H H':aA} {w:World} {s:List AV} {a:Act} {out:Out} (hw:WR g G H w) (hs:SR G w s a)
 (hS:Lg P g (f'.eval g s) (VB.map (Arg.eval g s)) H out H') {next:Act->World->Prop} {Q:Exit->Act->World->Prop}
 (hn:∀v,out=.ret v->∀u w' G',WR g G' H' w'->Ext G H w G' H' w'->VR G' w' v u->next (a.put o.dst u) w')
 (hx:∀v,out=.pA v->∀u w' G',WR g G' H' w'->Ext G H w G' H' w'->VR G' w' v u->Q (.panic [{v:=u,recovered:=false}]) a w'):
 o.wpIn (Fw ro) 0 P a w next Q:=by
 have BP:=qA hw hs has;have aLh:o.semAt (Fw ro).round a.eval=execOp a.eval o:=Oper.semAt_eq _ _ _ fun c' h=>by rw[ho] at h;cases h
 refine⟨fun _ _=>trivial,?_⟩;rw[aLh];have aAv:=aW hw hs hf
 rcases hS with ⟨p,hp,hS⟩|⟨id,hp,hS⟩
 . obtain⟨us,bs,hfv,h1,h2⟩:=yR hp aAv
   have fZ:(execOp a.eval o).run P w=.ok (.enter p.1 (us++c.args.toList.map a.eval++bs).toArray) w:=by simp only[execOp,ho,Sem.run_bind,sY hc hfv,Result.andThen_ok,lC hS.1];congr 2;apply Dv;simp
   have yD:=hS.2 G w _ hw ((h1.append BP).append h2);rw[fZ];exact⟨wB,(JC yD).mono fun e w' he=>by have :=Lo hn hx e w' he;cases e<;>exact this⟩
 rw[hp] at aAv;obtain⟨l,hl,hfv⟩:=aa aAv;obtain⟨fn,tmps,assign,body,hy,hR⟩:=hS G w _ l hw BP hl
 have fZ:(execOp a.eval o).run P w=.ok (.round l.cC fn tmps assign body) w:=by
  have hy':(Instr.yield l.cC (c.args.map a.eval)).run P w=.ok (.round l.cC fn tmps assign body) w:=by rw[<-hy];congr 2;apply Dv;simp
  simp[execOp,ho,resolve,hc,hfv,Deferred.ofValue,invoke,hy']
 rw[fZ];exact⟨wB,RoundIn.mono (show RoundIn (Fw ro) 0 P l.cC fn tmps assign body w _ from hR) fun e w' he=>by have :=Lo hn hx e w' he;cases e<;>exact this⟩
theorem Kx {P:Program} {g:aT} {ro:Option Nat} {o:Oper} {r:cZ} (vS:bT P g o r) (Nd:∀c,o.op≠ .defer c) {G:Gh} {H H':aA} {w:World} {s:List AV} {a:Act} {v:AV} (hw:WR g G H w) (hs:SR G w s a)
 (h:cD (Arg.eval g s) H r=some (v,H')) {next:Act->World->Prop} {Q:Exit->Act->World->Prop}
 (hn:∀u w' G',WR g G' H' w'->Ext G H w G' H' w'->VR G' w' v u->next (a.put o.dst u) w'):o.wpIn (Fw ro) 0 P a w next Q:=by
 obtain⟨n,u,w',G',hr,hnv,r1,r2,r3⟩:=vS s a G H w v H' hw hs h;refine⟨fun _ _=>trivial,?_⟩;rw[show o.semAt (Fw ro).round a.eval=execOp a.eval o from Oper.semAt_eq _ _ _ Nd,hr]
 rcases hnv with rfl|⟨rfl,rfl⟩
 . exact hn u w' G' r1 r2 r3
 exact hn undef w' G' r1 r2 r3
theorem tF {P:Program} {g:aT} {mu:Bool} {o:Oper} {r:cZ} (h:JI P g mu o=some r) (hr:∀f azs,r≠ .iH f azs):∀c,o.op≠ .defer c:=by
 intro c ho;unfold JI at h;rw[ho] at h;simp only at h;split at h
 . split at h
   . obtain rfl:=Aa h;exact hr _ _ rfl
   cases h
 cases h
theorem PG {P:Program} {g:aT} {mu:Bool} {o:Oper} {f':Arg} {VB:List Arg} (h:JI P g mu o=some (.call f' VB)):
 ∃c f,o.op=.call c/\c.callee=.value f/\aX g f=some f'/\lH g c.args.toList=some VB:=by
 unfold JI at h;split at h
 case h_31=>
  rename_i c ho;unfold lA at h;split at h
  case h_4=>
   rename_i f hc;split at h
   . rename_i f2 as2 hf has;cases h;exact⟨c,f,ho,hc,hf,has⟩
   cases h
  all_goals exfalso
  all_goals (try unfold nL at h)
  all_goals (try unfold fM at h)
  all_goals repeat' (split at h)
  all_goals first
   |(cases h;done)
   |(simp only[Af] at h;obtain⟨_,_,h⟩:=h;cases h;done)
 all_goals exfalso
 all_goals (try unfold nK at h)
 all_goals (try unfold gR at h)
 all_goals (try unfold jY at h)
 all_goals repeat' (split at h)
 all_goals first
  |(cases h;done)
  |(simp only[Af] at h;obtain⟨_,_,h⟩:=h;cases h;done)
theorem VM {P:Program} {g:aT} {mu:Bool} {o:Oper} {x':Arg} (h:JI P g mu o=some (.panic x')):∃x,o.op=.panic x/\aX g x=some x':=by
 unfold JI at h;split at h
 case h_32=>rename_i x ho;simp only[Af] at h;obtain⟨y,hy,he⟩:=h;cases he;exact⟨x,ho,hy⟩
 all_goals exfalso
 all_goals (try unfold nK at h)
 all_goals (try unfold gR at h)
 all_goals (try unfold jY at h)
 all_goals (try unfold lA at h)
 all_goals (try unfold nL at h)
 all_goals (try unfold fM at h)
 all_goals repeat' (split at h)
 all_goals first
  |(cases h;done)
  |(simp only[Af] at h;obtain⟨_,_,h⟩:=h;cases h;done)
theorem VK {P:Program} {g:aT} {mu:Bool} {o:Oper} {f':Arg} {VB:List Arg} (h:JI P g mu o=some (.iH f' VB)):
 ∃c f,o.op=.defer c/\c.callee=.value f/\aX g f=some f'/\lH g c.args.toList=some VB:=by
 unfold JI at h;split at h
 case h_33=>
  rename_i c ho;split at h
  . rename_i f hc;split at h
    . rename_i f2 as2 hf has;cases h;exact⟨c,f,ho,hc,hf,has⟩
    cases h
  cases h
 all_goals exfalso
 all_goals (try unfold nK at h)
 all_goals (try unfold gR at h)
 all_goals (try unfold jY at h)
 all_goals (try unfold lA at h)
 all_goals (try unfold nL at h)
 all_goals (try unfold fM at h)
 all_goals repeat' (split at h)
 all_goals first
  |(cases h;done)
  |(simp only[Af] at h;obtain⟨_,_,h⟩:=h;cases h;done)
theorem DC {P:Program} {ops:Array Oper} {ro:Option Nat} {Q Q':Exit->Act->World->Prop} (hq:∀e a w,Q e a w->Q' e a w):∀(l:List Nat) (a:Act) (w2:World),wpOpsIn (Fw ro) 0 P ops Q l a w2->wpOpsIn (Fw ro) 0 P ops Q' l a w2:=by
 intro l
 induction l with
 |nil=>exact fun a w2 hh=>hq _ _ _ hh
 |cons i l ih=>
  intro a w2 hh;rw[wpOpsIn_cons] at hh ⊢;unfold wpOpIn at hh ⊢;split
  . rename_i hi;simp only[hi] at hh;exact ih _ _ hh
  rename_i x hi;simp only[hi] at hh;split
  . rename_i La;simp only[La,if_true] at hh;unfold Oper.wpIn at *;refine⟨hh.1,?_⟩;have hh:=hh.2;generalize (x.semAt (Fw ro).round a.eval).run P w2=rr at *
    have eq:∀(e:Ending) (w4:World),XX (wpOpsIn (Fw ro) 0 P ops Q l) Q a x.dst e w4->XX (wpOpsIn (Fw ro) 0 P ops Q' l) Q' a x.dst e w4:=fun e w4 sG=>by
     cases e with
     |returned v=>exact ih _ _ sG
     |panicked ch=>exact hq _ _ _ sG
     |outgrown=>exact let⟨a0,w0,q⟩:=sG;⟨a0,w0,hq _ _ _ q⟩
    cases rr with
    |ok n w3=>
     cases n<;>simp only[Oper.uponIn] at hh ⊢ <;>first
      |exact ih _ _ hh
      |exact hh
      |exact⟨hh.1,CallsIn.mono hh.2 (fun e w4 h=>by have :=eq e w4 (by cases e<;>exact h);cases e<;>exact this)⟩
      |exact⟨hh.1,RoundIn.mono hh.2 (fun e w4 h=>by have :=eq e w4 (by cases e<;>exact h);cases e<;>exact this)⟩
      |exact⟨hh.1,RowsIn.mono hh.2 (fun _ _ sG=>ih _ _ sG)⟩
    |halt y w3=>cases y<;>simp only[Oper.uponIn] at hh ⊢ <;>first|exact hh|exact hq _ _ _ hh
  rename_i La;simp only[La] at hh;exact⟨hh.1,ih _ _ hh.2⟩
theorem VN {P:Program} {g:aT} {mu:Bool} {o:Oper} {x':Arg} (h:JI P g mu o=some (.rF x')):∃t x k v,o.op=.range t x/\aX g x=some x'/\P.underlying t=some (.map k v):=by
 unfold JI at h;split at h
 case h_28=>
  rename_i t x ho;split at h
  . rename_i y k v hy ht;cases h;exact⟨t,x,k,v,ho,hy,ht⟩
  cases h
 all_goals exfalso
 all_goals (try unfold nK at h)
 all_goals (try unfold gR at h)
 all_goals (try unfold jY at h)
 all_goals (try unfold lA at h)
 all_goals (try unfold nL at h)
 all_goals (try unfold fM at h)
 all_goals repeat' (split at h)
 all_goals first
  |(cases h;done)
  |(simp only[Af] at h;obtain⟨_,_,h⟩:=h;cases h;done)
theorem Xb {P:Program} {g:aT} {mu:Bool} {o:Oper} {x':Arg} (h:JI P g mu o=some (.yE x')):∃x,o.op=.next x false/\aX g x=some x':=by
 unfold JI at h;split at h
 case h_29=>
  rename_i x s ho;split at h
  . rename_i y hy;cases h;exact⟨x,ho,hy⟩
  cases h
 all_goals exfalso
 all_goals (try unfold nK at h)
 all_goals (try unfold gR at h)
 all_goals (try unfold jY at h)
 all_goals (try unfold lA at h)
 all_goals (try unfold nL at h)
 all_goals (try unfold fM at h)
 all_goals repeat' (split at h)
 all_goals first
  |(cases h;done)
  |(simp only[Af] at h;obtain⟨_,_,h⟩:=h;cases h;done)
theorem VL {P:Program} {g:aT} {mu:Bool} {o:Oper} {x':Arg} (h:JI P g mu o=some (.tX x')):∃x,o.op=.entry x/\aX g x=some x':=by
 unfold JI at h;split at h
 case h_30=>rename_i x ho;simp only[Af] at h;obtain⟨y,hy,he⟩:=h;cases he;exact⟨x,ho,hy⟩
 all_goals exfalso
 all_goals (try unfold nK at h)
 all_goals (try unfold gR at h)
 all_goals (try unfold jY at h)
 all_goals (try unfold lA at h)
 all_goals (try unfold nL at h)
 all_goals (try unfold fM at h)
 all_goals repeat' (split at h)
 all_goals first
  |(cases h;done)
  |(simp only[Af] at h;obtain⟨_,_,h⟩:=h;cases h;done)
theorem SS {G:Gh} {w:World} {id:Nat} {u:Value} (h:VR G w (.map id) u):∃l,G.loc id=some l/\u=.map (some l.cC):=by
 cases h with
 |map _ l hl=>exact⟨l,hl,rfl⟩
theorem ZL {G:Gh} {w:World} {id off:Nat} {u:Value} (h:VR G w (.ref id off) u):∃l,G.loc id=some l/\u=.pointer (some ⟨l.cC,l.base+off,none⟩):=by
 cases h with
 |ref _ _ l hl=>exact⟨l,hl,rfl⟩
theorem AH {α:Type} {a:Array α} {i:Nat} {x:α} (h:a[i]?=some x):a.setIfInBounds i x=a:=by
 apply Array.ext_getElem?;intro j;rw[En];split
 . rename_i rP;subst rP;rw[if_pos (Bw.1 h).1,h]
 rfl
theorem WR.fresh {g:aT} {G:Gh} {H:aA} {w:World} (hw:WR g G H w):G.loc H.next=none:=by
 cases hl:G.loc H.next with
 |none=>rfl
 |some l'=>exact absurd (hw.lt _ _ hl) (Ee _)
theorem Su {P:Program} {g:aT} {G:Gh} {H:aA} {w:World} (hw:WR g G H w) {m:Nat} {es:List (AV×AV)} {u:Value} (hg:H.get m=some (.map es)) (hu:VR G w (.map m) u)
 {t k v:TypeId} (ht:P.underlying t=some (.map k v)):∃bs c mb u' w' G',bs.length=es.length/\bs.Nodup/\(Instr.range t u).run P w=.ok u' w'/\
   WR g G' ((H.set m (.pQ es bs c mb)).alloc (.iter m mb c [])) w'/\Ext G H w G' ((H.set m (.pQ es bs c mb)).alloc (.iter m mb c [])) w'/\VR G' w' (.ref H.next 0) u':=by
 obtain⟨l,hl,rfl⟩:=SS hu;obtain⟨ou,OT,ents,clock,h1,h2,h3,h4⟩:=hw.fQ _ _ _ hl hg rfl;have hlen:(ents.toList.map (·.born)).length=es.length:=by simpa using h2
 have Nd:(ents.toList.map (·.born)).Nodup:=by rw[List.Nodup,Ez];intro i j hi hj rP he;simp only[Ax,Cm] at hi hj;simp only[Ha,Array.getElem_toList] at he;have :=h3.2 i j hi hj (by rw[Ba,Ba,Db hi,Db hj];exact he);omega
 have eW:∀b∈ents.toList.map (·.born),b<clock:=by
  intro b hb;simp only[Bq] at hb;obtain⟨x,hx,rfl⟩:=hb;obtain⟨i,hi,rfl⟩:=Ff hx;have zL:i<ents.size:=by simpa using hi
  have :=h3.1 i zL;rw[Ba,Db zL] at this;simpa using this
 refine⟨ents.toList.map (·.born),clock,l.cC,.pointer (some ⟨w.heap.size,0,none⟩),w.alloc (.mapIter (some l.cC) clock #[] clock),G.dA H.next ⟨w.heap.size,0,0,1⟩,hlen,Nd,?_,?_⟩
 . simp[Instr.range,underlying,program,ht,getObj,newObj,Sem.run,h1,Result.andThen]
 obtain⟨q1,q2⟩:=hw.AG (o':=.pQ es (ents.toList.map (·.born)) clock l.cC) (x:=.map ents clock) (w':=w) hl hg rfl rfl (AH h1).symm .now
  (fun _ sJ=>⟨rfl,Nd,eW,ents,sJ,rfl,hlen,h4⟩)
 have m1:=q1.xH (H':=(H.set m (.pQ es (ents.toList.map (·.born)) clock l.cC)).alloc (.iter m l.cC clock [])) H.next (.iter m l.cC clock []) (.mapIter (some l.cC) clock #[] clock) rfl q1.fresh (aA.aG _ _) (Fm _) (Ea _) (w':=w.alloc (.mapIter (some l.cC) clock #[] clock)) ⟨rfl,.now⟩
  (fun hm=>⟨by show(w.heap.push _)[w.heap.size]?=_;simp,hm _ _ (.map m l hl)⟩)
 exact⟨m1.rel,m1.ext q2 (Ai _),.ref H.next 0 ⟨w.heap.size,0,0,1⟩ (by show(if H.next=H.next then some (⟨w.heap.size,0,0,1⟩:Loc) else _)=_;simp)⟩
theorem Vr {P:Program} {g:aT} {G:Gh} {H:aA} {w:World} (hw:WR g G H w) {it m mb c:Nat} {seen bs:List Nat} {es:List (AV×AV)} {u:Value} (Jn:H.get it=some (.iter m mb c seen)) (hgm:H.get m=some (.pQ es bs c mb))
 (hu:VR G w (.ref it 0) u) (ty:TypeId):
 ((∀b∈bs,b∈seen)/\(Instr.next u false ty).run P w=.ok (.tuple #[.bool false]) w)\/
 ∃j u' w' G',j<bs.length/\bs.getD j 0∉seen/\(Instr.next u false ty).run P w=.ok u' w'/\WR g G' (H.set it (.iter m mb c (seen++[bs.getD j 0]))) w'/\Ext G H w G' (H.set it (.iter m mb c (seen++[bs.getD j 0]))) w'/\
  VR G' w' (.eZ [.bool true,(es.getD j (aC,aC)).1,(es.getD j (aC,aC)).2]) u':=by
 obtain⟨li,Tu,rfl⟩:=ZL hu;obtain⟨ou,OT,hbi,hvm⟩:=hw.fQ _ _ _ Tu Jn rfl;obtain⟨lm,hlm,hmb⟩:=SS hvm;cases hmb;obtain⟨_,_,_,Nd,eW,ents,YH,Tp,hlen,gV⟩:=hw.fQ _ _ _ hlm hgm rfl;rw[ou];have hold:∀x∈ents.toList,x.born<c:=fun x hx=>eW _ (by rw[<-Tp];exact List.mem_map_of_mem hx)
 rcases run_next_at (P:=P) w ty li.cC lm.cC c c seen.toArray ents c hbi YH hold (Ai _) with ⟨h0,hr⟩|⟨e,he,w1,uS,hr⟩
 . refine .inl ⟨fun b hb=>?_,hr⟩;rw[<-Tp] at hb;obtain⟨x,hx,rfl⟩:=Bq.1 hb;have YE:=Array.eq_empty_of_size_eq_zero h0;unfold leftOf at YE;rw[Array.filter_eq_empty_iff] at YE;have :=YE x (by simpa using hx);simpa using this
 right;unfold leftOf at he;simp only[Array.toList_filter,Dn,Cr,List.contains_toArray] at he;obtain⟨hem,hns⟩:=he;obtain⟨j,hj,gq⟩:=Ff hem;have pq:j<ents.size:=by simpa using hj
 have hjb:j<bs.length:=by rw[<-Tp];simpa using hj
 have hbj:bs.getD j 0=e.born:=by subst Tp;simp[Ck,Cj,Ac hj,gq]
 have aAq:ents.getD j default=e:=by rw[Ba,Db pq];simpa using gq
 have aDr:w1.heap=w.heap:=by rcases uS with rfl|rfl<;>rfl
 have sI:uY w w1:=by rcases uS with rfl|rfl<;>exact .now
 obtain⟨q1,q2⟩:=hw.AG (o':=.iter m lm.cC c (seen++[bs.getD j 0])) (x:=.mapIter (some lm.cC) c (seen.toArray.push e.born) c)
  (w':=ChangeMaps.setBlock w1 li.cC (.mapIter (some lm.cC) c (seen.toArray.push e.born) c)) Tu Jn rfl rfl (by show w1.heap.setIfInBounds _ _=_;rw[aDr]) ⟨sI.os,sI.output,sI.tape,sI.drawn⟩
  (fun hm sJ=>⟨by rw[sJ,hbj];simp,hm _ _ hvm⟩)
 obtain⟨vk,vv⟩:=gV j (by omega);rw[aAq] at vk vv;refine⟨j,_,_,G,hjb,by rw[hbj];simpa using hns,hr,q1,q2,?_⟩;have hm':∀a u,VR G w a u->VR G (ChangeMaps.setBlock w1 li.cC (.mapIter (some lm.cC) c (seen.toArray.push e.born) c)) a u:=fun a u h=>h.ext q2;refine VR.eZ _ [.bool true,e.key,e.val] rfl fun i hi=>?_
 match i,hi with
 |0,_=>exact .bool true
 |1,_=>exact hm' _ _ vk
 |2,_=>exact hm' _ _ vv
 |k+3,hi=>simp at hi;omega
theorem Rp {P:Program} {g:aT} {G:Gh} {H:aA} {w:World} (hw:WR g G H w) {it m mb c j:Nat} {seen bs:List Nat} {es:List (AV×AV)} {u:Value} (Jn:H.get it=some (.iter m mb c (seen++[bs.getD j 0])))
 (hgm:H.get m=some (.pQ es bs c mb)) (hj:j<bs.length) (hu:VR G w (.ref it 0) u):
 ∃u',(Instr.entry u).run P w=.ok u' w/\VR G w (.eZ [(es.getD j (aC,aC)).1,(es.getD j (aC,aC)).2]) u':=by
 obtain⟨li,Tu,rfl⟩:=ZL hu;obtain⟨ou,OT,hbi,hvm⟩:=hw.fQ _ _ _ Tu Jn rfl;obtain⟨lm,hlm,hmb⟩:=SS hvm;cases hmb;obtain⟨_,_,_,Nd,eW,ents,YH,Tp,hlen,gV⟩:=hw.fQ _ _ _ hlm hgm rfl;rw[ou];have gq:j<ents.toList.length:=by rw[<-Tp] at hj;simpa using hj
 have pq:j<ents.size:=by simpa using gq
 have hbj:bs.getD j 0=ents.toList[j].born:=by subst Tp;simp[Ck,Cj,Ac gq]
 have aAq:ents.getD j default=ents.toList[j]:=by rw[Ba,Db pq];simp
 have hr:=run_entry_at (P:=P) w li.cC lm.cC c seen.toArray ents c ents.toList[j] (by rw[hbi,hbj];simp) YH (Ap gq) (by rw[Tp];exact Nd);obtain⟨vk,vv⟩:=gV j (by omega);rw[aAq] at vk vv;refine⟨_,hr,VR.eZ _ [_,_] rfl fun i hi=>?_⟩
 match i,hi with
 |0,_=>exact vk
 |1,_=>exact vv
 |k+2,hi=>simp at hi;omega
theorem yL {P:Program} {g:aT} {mu:Bool} {ro:Option Nat} {ops:Array Oper}:∀(l:List Oper) (rl:List aN) (k:Nat),iU P g mu ops l=some rl->(∀j,(h:j<l.length)->ops[k+j]?=some l[j])->
 (ro=none\/∀r∈rl,∀f azs,r.op≠ .iH f azs)->∀(s:List AV) (ds:List eX) (G:Gh) (H:aA) (w:World) (a:Act) (Q:AQ),pY P g rl s ds H Q->WR g G H w->SR G w s a->NA G w ds a.defers->
   wpOpsIn (Fw ro) 0 P ops (QR g G H w Q) (List.range' k l.length) a w
 |[],rl,k,hc,hl,xC,s,ds,G,H,w,a,Q,h,hw,hs,hd=>by obtain rfl:=Aa hc;exact⟨.normal,s,ds,H,G,h,hw,Ext.refl G H w,hs,hd,trivial⟩
 |o::l,rl,k,hc,hl,xC,s,ds,G,H,w,a,Q,h,hw,hs,hd=>by
  unfold iU at hc;split at hc
  . rename_i r rs hr qk;obtain rfl:=Aa hc
    have ho:ops[k]?=some o:=hl 0 (by simp)
    have lY:∀j,(h:j<l.length)->ops[k+1+j]?=some l[j]:=fun j hj=>by have :=hl (j+1) (by simpa using hj);simpa [show k+(j+1)=k+1+j by omega] using this
    obtain⟨uO,qG,_⟩:=yT hr;have UB:=Kw hr hs
    have next:∀{v:AV} {u:Value} {H1:aA} {w1:World} {G1:Gh} {oR:List eX} {a1:Act},pY P g rs (jF s r.dst v) oR H1 Q->WR g G1 H1 w1->Ext G H w G1 H1 w1->VR G1 w1 v u->SR G w s a1->NA G1 w1 oR a1.defers->
     wpOpsIn (Fw ro) 0 P ops (QR g G H w Q) (List.range' (k+1) l.length) (a1.put o.dst u) w1:=by
     intro v u H1 w1 G1 oR a1 hA uS he hv im Vh;have DG:=(im.ext he).put r.dst hv;rw[uO] at DG hA
     have hdp:NA G1 w1 oR (a1.put o.dst u).defers:=by cases o.dst<;>exact Vh
     have :=yL l rs (k+1) qk lY (xC.imp id fun h x hx=>h x (Ao _ hx)) _ oR G1 H1 w1 _ Q hA uS DG hdp;exact DC (fun _ _ _=>QR.trans he) _ _ _ this
    simp only[Ak,List.range'_succ];rw[wpOpsIn_cons];unfold wpOpIn;simp only[ho];rw[UB];unfold pY at h;by_cases La:bF s r=true
    . rw[if_pos La] at h ⊢;split at h
      . rename_i f azs eK;obtain⟨out,H',hS,oV⟩:=h;rw[eK] at qG;obtain⟨c,f0,e1,e2,e3,e4⟩:=PG qG;refine OP e1 e2 e3 e4 hw hs hS (fun v hv u w' G' jG he GR=>?_) (fun v hv u w' G' jG he GR=>?_)
        . subst hv
          exact next oV jG he GR hs (hd.ext he)
        subst hv;exact⟨.panic v,s,ds,H',G',oV,jG,he,hs.ext he,hd.ext he,u,rfl,GR⟩
      . rename_i x eK;obtain⟨t,v,hx,hq⟩:=h;rw[eK] at qG;obtain⟨x0,e1,e2⟩:=VM qG;have vx:=aW hw hs e2;rw[hx] at vx;generalize dC:a.eval x0=u at vx
        have fZ:∀q,u=.iface t q->(execOp a.eval o).run P w=.halt (.panic u) w:=fun q hq=>by subst hq;simp[execOp,e1,dC,Instr.panic,goPanic]
        have vx':=vx;refine⟨fun _ _=>trivial,?_⟩;rw[show o.semAt (Fw ro).round a.eval=execOp a.eval o from Oper.semAt_eq _ _ _ fun c' h=>by rw[e1] at h;cases h]
        cases vx with
        |iface _ _ q hqv=>rw[fZ q rfl];exact⟨.panic (.iface t v),s,ds,H,G,hq,hw,Ext.refl G H w,hs,hd,_,rfl,vx'⟩
      . rename_i f azs eK;obtain⟨p,hp,hA⟩:=h;rw[eK] at qG;obtain⟨c,f0,e1,e2,e3,e4⟩:=VK qG;obtain⟨us,bs,hfv,h1,h2⟩:=yR hp (aW hw hs e3);have BP:=qA hw hs e4
        have fZ:(execOp a.eval o).run P w=.ok (.defer {target:=.fn (.func p.1) bs.toArray,args:=us.toArray++c.args.map a.eval}) w:=by simp only[execOp,e1,Sem.run_bind,sY e2 hfv,Result.andThen_ok,Sem.run_pure]
        have aLg:ro=none:=xC.resolve_right fun h=>h r (by simp) _ _ eK;subst aLg;refine⟨fun _ _=>trivial,?_⟩;rw[show o.semAt (Fw none).round a.eval=execOp a.eval o from rfl,fZ]
        exact next hA hw (Ext.refl G H w) (VR.kN G w) (a1:={a with defers:={target:=.fn (.func p.1) bs.toArray,args:=us.toArray++c.args.map a.eval}::a.defers}) hs
         ⟨⟨bs,rfl,by simpa using(h1.append BP).append h2⟩,hd⟩
      . rename_i x eK;obtain⟨m,es,hx,hg,hA⟩:=h;rw[eK] at qG;obtain⟨t,x0,kt,vt,e1,e2,e3⟩:=VN qG;have vx:=aW hw hs e2;rw[hx] at vx;obtain⟨bs,c,mb,u',w',G',h1,h2,hr,q1,q2,q3⟩:=Su (P:=P) hw hg vx e3;refine⟨fun _ _=>trivial,?_⟩;rw[show o.semAt (Fw ro).round a.eval=execOp a.eval o from Oper.semAt_eq _ _ _ fun c' h=>by rw[e1] at h;cases h];rw[show(execOp a.eval o).run P w=.ok (.value u') w' by simp[execOp,e1,hr]]
        exact next (hA _ _ _ h1 h2) q1 q2 q3 hs (hd.ext q2)
      . rename_i x eK;obtain⟨it,m,mb,c,seen,es,bs,hx,Jn,hgm,Jm,eP⟩:=h;rw[eK] at qG;obtain⟨x0,e1,e2⟩:=Xb qG;have vx:=aW hw hs e2;rw[hx] at vx;refine⟨fun _ _=>trivial,?_⟩;rw[show o.semAt (Fw ro).round a.eval=execOp a.eval o from Oper.semAt_eq _ _ _ fun c' h=>by rw[e1] at h;cases h]
        rcases Vr (P:=P) hw Jn hgm vx o.type with ⟨h1,hr⟩|⟨j,u',w',G',h1,h2,hr,q1,q2,q3⟩
        . rw[show(execOp a.eval o).run P w=.ok (.value (.tuple #[.bool false])) w by simp[execOp,e1,hr]]
          exact next (Jm h1) hw (Ext.refl G H w) (VR.eZ [.bool false] [.bool false] rfl fun i hi=>by
           obtain rfl:i=0:=by simp at hi;exact hi
           exact .bool false) hs hd
        rw[show(execOp a.eval o).run P w=.ok (.value u') w' by simp[execOp,e1,hr]]
        exact next (eP j h1 h2) q1 q2 q3 hs (hd.ext q2)
      . rename_i x eK;obtain⟨it,m,mb,c,seen,es,bs,j,hx,Jn,hgm,hj,hA⟩:=h;rw[eK] at qG;obtain⟨x0,e1,e2⟩:=VL qG;have vx:=aW hw hs e2;rw[hx] at vx;obtain⟨u',hr,hv⟩:=Rp (P:=P) hw Jn hgm hj vx;refine⟨fun _ _=>trivial,?_⟩;rw[show o.semAt (Fw ro).round a.eval=execOp a.eval o from Oper.semAt_eq _ _ _ fun c' h=>by rw[e1] at h;cases h];rw[show(execOp a.eval o).run P w=.ok (.value u') w by simp[execOp,e1,hr]]
        exact next hA hw (Ext.refl G H w) hv hs hd
      rename_i n1 n2 n3 n4 n5 n6;obtain⟨v,H',hA,hn⟩:=h
      have BS:r.op.plain=true:=by cases Js:r.op<;>first|rfl|exact absurd Js (n1 _ _)|exact absurd Js (n2 _)|exact absurd Js (n3 _ _)|exact absurd Js (n4 _)|exact absurd Js (n5 _)|exact absurd Js (n6 _)
      refine Kx (Rg qG BS) (tF qG n3) hw hs hA (fun u w' G' jG he hv=>?_)
      exact next hn jG he hv hs (hd.ext he)
    rw[if_neg La] at h ⊢;exact⟨fun _ _=>trivial,next h hw (Ext.refl G H w) (VR.kN G w) hs hd⟩
  cases hc
def cZ.mE:cZ->Bool
 |.store _ _ _|.append _ _ _ _ _|.copy _ _ _|.zw _ _ _|.KH _ _ _ _|.call _ _=>true
 |_=>false
def cZ.reads:cZ->Bool
 |.load _ _ _|.yJ _ _ _ _ _ _|.yA _|.lookup _ _ _ _ _=>true
 |_=>false
def vT:AV->Option Nat
 |.ref id _=>some id
 |.sl id _ _ _ _=>some id
 |.map id=>some id
 |_=>none
def cZ.cG (ev:Arg->AV):cZ->Option Nat
 |.load _ _ a=>vT (ev a)
 |.yJ _ _ x _ _ _=>vT (ev x)
 |.yA x=>vT (ev x)
 |.lookup _ _ _ x _=>vT (ev x)
 |_=>none
def Arg.tmps:Arg->List Nat
 |.tmp t=>[t]
 |_=>[]
def cZ.args:cZ->List Arg
 |.CI x|.box x|.KM x|.un _ x|.JH _ x|.wM x|.yA x|.Sw _ x|.SV _ x|.Ru _ x|.TE _ _ _ x|.Rr x _|.lens x|.GU x|.load _ _ x|.panic x|.zw _ _ x=>[x]
 |.pick a b c=>[a,b,c]
 |.alloc _|.uJ=>[]
 |.build _ ps=>ps.map (·.2.2)
 |.KK _ xs=>xs
 |.store _ a x=>[a,x]
 |.bin _ x y|.eqb _ x y|.eqf _ _ x y|.Xp _ _ _ x y=>[x,y]
 |.SU _ a b=>a++b
 |.gM _ _ _ l c=>[l,c]
 |.Kn x l h=>x::(l.toList++h.toList)
 |.Sx _ x l h m|.yJ _ _ x l h m=>x::(l.toList++(h.toList++m.toList))
 |.Nl _ _ x i|.idx _ _ _ x i|.idxs x i|.QA x i|.QC x i=>[x,i]
 |.append _ _ _ x y|.copy _ x y=>[x,y]
 |.lookup _ _ _ x i=>[x,i]
 |.KH _ m k v=>[m,k,v]
 |.call f azs|.iH f azs=>f::azs
 |.rF x|.yE x|.tX x=>[x]
theorem gC {ev ev':Arg->AV} {x:Option Arg} (h:∀y∈x.toList,ev y=ev' y):cP ev x=cP ev' x:=by
 cases x with
 |none=>rfl
 |some y=>simp[cP,h y (by simp)]
theorem FM {ev ev':Arg->AV}:∀(ps:List (Nat×Nat×Arg)) (cs:List AV),(∀y∈ps.map (·.2.2),ev y=ev' y)->BE ev cs ps=BE ev' cs ps
 |[],cs,h=>rfl
 |(o,n,x)::r,cs,h=>by
  have hx:=h x (by simp);simp only[BE,hx];split
  . exact FM r _ (fun y hy=>h y (by simp at hy ⊢;exact .inr hy))
  rfl
theorem KC {ev ev':Arg->AV} (sz:Nat):∀(xs:List Arg),(∀y∈xs,ev y=ev' y)->CC ev sz xs=CC ev' sz xs
 |[],h=>rfl
 |x::r,h=>by have hx:=h x (by simp);simp only[CC,hx,KC sz r (fun y hy=>h y (by simp[hy]))]
theorem pU {ev ev':Arg->AV} {r:cZ} (h:∀y∈r.args,ev y=ev' y):tL ev r=tL ev' r:=by
 cases r<;>simp only[tL]<;>first
  |rfl
  |(have h1:=h _ (Aq);simp only[cZ.args] at h;simp only[h1])
  |skip
 case gM sz b z l c=>have h2:=h c (by simp);rw[h2]
theorem VA {ev ev':Arg->AV} {r:cZ} (H:aA) (h:∀y∈r.args,ev y=ev' y):cD ev H r=cD ev' H r:=by
 have hm:∀l:List Arg,(∀y∈l,y∈r.args)->l.map ev=l.map ev':=fun l hl=>Er fun y hy=>h y (hl y hy)
 cases r with
 |build z ps=>simp only[cD];rw[FM ps z h]
 |KK sz xs=>simp only[cD];rw[KC sz xs h]
 |SU fn a b=>simp only[cD];rw[hm a (fun y hy=>by simp[cZ.args,hy]),hm b (fun y hy=>by simp[cZ.args,hy])]
 |Kn x l hh=>have h1:=h x (by simp[cZ.args]);have h2:cP ev l=cP ev' l:=gC fun y hy=>h y (by simp only[cZ.args,Ah,Az];exact .inr (.inl hy));have h3:cP ev hh=cP ev' hh:=gC fun y hy=>h y (by simp only[cZ.args,Ah,Az];exact .inr (.inr hy));simp only[cD,h1,h2,h3]
 |Sx sz x l hh m=>have h1:=h x (by simp[cZ.args]);have h2:cP ev l=cP ev' l:=gC fun y hy=>h y (by simp only[cZ.args,Ah,Az];exact .inr (.inl hy));have h3:cP ev hh=cP ev' hh:=gC fun y hy=>h y (by simp only[cZ.args,Ah,Az];exact .inr (.inr (.inl hy)));have h4:cP ev m=cP ev' m:=gC fun y hy=>h y (by simp only[cZ.args,Ah,Az];exact .inr (.inr (.inr hy)));simp only[cD,h1,h2,h3,h4]
 |yJ n sz x l hh m=>have h1:=h x (by simp[cZ.args]);have h2:cP ev l=cP ev' l:=gC fun y hy=>h y (by simp only[cZ.args,Ah,Az];exact .inr (.inl hy));have h3:cP ev hh=cP ev' hh:=gC fun y hy=>h y (by simp only[cZ.args,Ah,Az];exact .inr (.inr (.inl hy)));have h4:cP ev m=cP ev' m:=gC fun y hy=>h y (by simp only[cZ.args,Ah,Az];exact .inr (.inr (.inr hy)));simp only[cD,h1,h2,h3,h4]
 |alloc z=>simp only[cD,pU (r:=.alloc z) h]
 |box x=>simp only[cD,pU (r:=.box x) h]
 |uJ=>simp only[cD,pU (r:=.uJ) h]
 |gM a b c d e=>simp only[cD,pU (r:=.gM a b c d e) h]
 |wM x=>simp only[cD,pU (r:=.wM x) h]
 |pick a b c=>have h1:=h a (by simp[cZ.args]);have h2:=h b (by simp[cZ.args]);have h3:=h c (by simp[cZ.args]);simp only[cD,h1,h2,h3]
 |KH k m i v=>have h1:=h m (by simp[cZ.args]);have h2:=h i (by simp[cZ.args]);have h3:=h v (by simp[cZ.args]);simp only[cD,h1,h2,h3]
 |call f azs=>rfl
 |iH f azs=>rfl
 |panic x=>rfl
 |rF x=>rfl
 |yE x=>rfl
 |tX x=>rfl
 |store n a b=>have h1:=h a (by simp[cZ.args]);have h2:=h b (by simp[cZ.args]);simp only[cD,h1,h2]
 |bin op a b=>have h1:=h a (by simp[cZ.args]);have h2:=h b (by simp[cZ.args]);simp only[cD,h1,h2]
 |eqb op a b=>have h1:=h a (by simp[cZ.args]);have h2:=h b (by simp[cZ.args]);simp only[cD,h1,h2]
 |eqf op s a b=>have h1:=h a (by simp[cZ.args]);have h2:=h b (by simp[cZ.args]);simp only[cD,h1,h2]
 |Xp op k l a b=>have h1:=h a (by simp[cZ.args]);have h2:=h b (by simp[cZ.args]);simp only[cD,h1,h2]
 |Nl n sz a b=>have h1:=h a (by simp[cZ.args]);have h2:=h b (by simp[cZ.args]);simp only[cD,h1,h2]
 |idx n sz g a b=>have h1:=h a (by simp[cZ.args]);have h2:=h b (by simp[cZ.args]);simp only[cD,h1,h2]
 |idxs a b=>have h1:=h a (by simp[cZ.args]);have h2:=h b (by simp[cZ.args]);simp only[cD,h1,h2]
 |append s b m x y=>have h1:=h x (by simp[cZ.args]);have h2:=h y (by simp[cZ.args]);simp only[cD,h1,h2]
 |copy s x y=>have h1:=h x (by simp[cZ.args]);have h2:=h y (by simp[cZ.args]);simp only[cD,h1,h2]
 |lookup k z ok x y=>have h1:=h x (by simp[cZ.args]);have h2:=h y (by simp[cZ.args]);simp only[cD,h1,h2]
 |CI x=>have h1:=h x (by simp[cZ.args]);simp only[cD,h1]
 |QA x y=>have h1:=h x (by simp[cZ.args]);have h2:=h y (by simp[cZ.args]);simp only[cD,h1,h2]
 |QC x y=>have h1:=h x (by simp[cZ.args]);have h2:=h y (by simp[cZ.args]);simp only[cD,h1,h2]
 |zw n z x=>have h1:=h x (by simp[cZ.args]);simp only[cD,h1]
 |KM x=>have h1:=h x (by simp[cZ.args]);simp only[cD,h1]
 |un o x=>have h1:=h x (by simp[cZ.args]);simp only[cD,h1]
 |JH k x=>have h1:=h x (by simp[cZ.args]);simp only[cD,h1]
 |yA x=>have h1:=h x (by simp[cZ.args]);simp only[cD,h1]
 |Sw n x=>have h1:=h x (by simp[cZ.args]);simp only[cD,h1]
 |SV t x=>have h1:=h x (by simp[cZ.args]);simp only[cD,h1]
 |Ru n x=>have h1:=h x (by simp[cZ.args]);simp only[cD,h1]
 |TE t ok z x=>have h1:=h x (by simp[cZ.args]);simp only[cD,h1]
 |Rr x i=>have h1:=h x (by simp[cZ.args]);simp only[cD,h1]
 |lens x=>have h1:=h x (by simp[cZ.args]);simp only[cD,h1]
 |GU x=>have h1:=h x (by simp[cZ.args]);simp only[cD,h1]
 |load g n x=>have h1:=h x (by simp[cZ.args]);simp only[cD,h1]
theorem DR {ev:Arg->AV} {r:cZ} (he:r.mE=false) (hf:r.fresh=false) {H H1:aA} {v:AV} {H':aA} (h:cD ev H r=some (v,H'))
 (hr:∀id,r.cG ev=some id->H1.get id=H.get id):H'=H/\cD ev H1 r=some (v,H1):=by
 have hca:∀{id:Nat},H1.get id=H.get id->H1.eB id=H.eB id:=fun hh=>by simp[aA.eB,hh]
 cases r<;>first
  |(cases he;done)
  |(cases hf;done)
  |skip
 case load agg n a=>
  simp only[cD] at h ⊢;simp only[cZ.cG] at hr;split at h
  . rename_i id off bZ;have :=hca (hr id (by rw[bZ];rfl));simp only[this];split at h
    . split at h
      . split at h
        . simp only[Ab,Ad] at h ⊢;simp_all
        split at h
        . simp only[Ab,Ad] at h ⊢;simp_all
        cases h
      cases h
    cases h
  . rename_i cs bZ;split at h
    . split at h
      . simp only[Ab,Ad] at h ⊢;simp_all
      split at h
      . simp only[Ab,Ad] at h ⊢;simp_all
      cases h
    cases h
  cases h
 case yJ n sz x lo hi mx=>
  simp only[cD] at h ⊢;simp only[cZ.cG] at hr;split at h
  . simp only[Af,Ad] at h ⊢;obtain⟨v',h,rfl,rfl⟩:=h;refine⟨rfl,v',?_,by simp⟩;unfold kC at h ⊢;simp only at h ⊢;split at h
    . rename_i hc;rw[if_pos hc];split at h
      . rename_i id o bZ;have :=hca (hr id (by rw[bZ];rfl));simp only[this];exact h
      . exact h
      cases h
    cases h
  cases h
 case yA x=>
  simp only[cD] at h ⊢;simp only[cZ.cG] at hr
  have Nb:bJ H1 1 (ev x)=bJ H 1 (ev x):=by cases hx:ev x<;>simp only[bJ];rename_i id sz off len cap;have :=hca (hr id (by rw[hx];rfl));simp only[this]
  split at h
  . cases h
  rename_i hns;rw[Nb];split at h
  . simp only[Af,Ad] at h ⊢;obtain⟨bs,h1,rfl,rfl⟩:=h;exact⟨rfl,bs,h1,by simp⟩
  cases h
 case lookup k z ok x i=>
  simp only[cD] at h ⊢;simp only[cZ.cG] at hr;split at h
  . rename_i hk;rw[if_pos hk];split at h
    . simp only[Ab,Ad] at h ⊢;simp_all
    . rename_i id bZ;have :=hr id (by rw[bZ];rfl);simp only[this];split at h
      . split at h
        . simp only[Ab,Ad] at h ⊢;simp_all
        . simp only[Ab,Ad] at h ⊢;simp_all
        cases h
      cases h
    cases h
  cases h
 case QA x y=>
  simp only[cD] at h ⊢;split at h
  . rename_i h1 h2;simp only[Ab,Ad] at h;obtain⟨rfl,rfl⟩:=h;exact⟨rfl,rfl⟩
  cases h
 case QC x y=>
  simp only[cD] at h ⊢;split at h
  . rename_i h1 h2;simp only[Ab,Ad] at h;obtain⟨rfl,rfl⟩:=h;exact⟨rfl,rfl⟩
  cases h
 all_goals
  simp only[cD] at h ⊢
  repeat' (split at h)
  all_goals first
   |(cases h;done)
   |(simp only[Ab,Ad] at h
     obtain⟨rfl,rfl⟩:=h
     exact⟨rfl,by simp_all⟩)
   |(simp only[Af,Ad] at h
     obtain⟨q,h1,rfl,rfl⟩:=h
     exact⟨rfl,by simp_all⟩)
section
def rL (r:aN):List Nat:=r.op.args.flatMap Arg.tmps++(match r.guard with|some (d,_)=>[d]|none=>[])
def eH (rl:List aN) (i:Nat):Nat:=(rl.take i).countP (·.op.fresh)
def DStep (P:Program) (g:aT) (pn:Bool) (id:Nat) (r:aN) (s:List AV) (H:aA) (v:AV) (H':aA):Prop:=
 if bF s r then
  if r.op.fresh then ∃ob val,tL (Arg.eval g s) r.op=some (ob,val)/\v=val id/\H'=H.set id ob
  else match r.op with
   |.call f azs=>if pn=true then v=aC/\H'=H else ∃p,iG (f.eval g s)=some p/\Sound P g p.1 (p.2.1++azs.map (Arg.eval g s)++p.2.2) H (.ret v) H'
   |.panic _|.iH _ _=>False
   |op=>cD (Arg.eval g s) H op=some (v,H')
 else v=aC/\H'=H
structure cM (P:Program) (g:aT) (rl:List aN) (pj:Option Nat) (pairs:List (Nat×Nat)) (s0:List AV) (H0:aA) (Hs:Nat->aA) (ss:Nat->List AV) (vs:Nat->AV):Prop where
 s0:ss 0=s0
 h0:Hs 0={H0 with next:=H0.next+rl.countP (·.op.fresh)}
 free:∀k,k<rl.countP (·.op.fresh)->H0.get (H0.next+k)=none
 step:∀i r,rl[i]?=some r->DStep P g (pj==some i) (H0.next+eH rl i) r (ss i) (Hs i) (vs i) (Hs (i+1))/\ss (i+1)=jF (ss i) r.dst (vs i)
 mono:∀i r,rl[i]?=some r->r.op.mE=true->(Hs i).next<=(Hs (i+1)).next
 EY:∀i e,(i,e)∈pairs->∀ri re,rl[i]?=some ri->rl[e]?=some re->bF (ss i) ri=true->bF (ss e) re=true->
  ∀id,(ri.op.cG (Arg.eval g (ss i))=some id\/(ri.op.fresh=true/\id=H0.next+eH rl i))->(Hs e).get id=(Hs (e+1)).get id
structure mH (ops:Array Oper) (rl:List aN) (pairs:List (Nat×Nat)) (anc:Nat->Nat->Bool):Prop where
 oe:∀j o,ops[j]?=some o->∀e∈o.after,Region.binds .any e=true->e.on<j
 wit:∀i j,anc i j=true->∃o,ops[j]?=some o/\∃e∈o.after,Region.binds .any e=true/\(e.on=i\/anc i e.on=true)
 cmp:∀i j ri rj,i<j->rl[i]?=some ri->rl[j]?=some rj->anc i j=false->
  (ri.op.mE=true->rj.op.mE=false)/\(∀d,ri.dst=some d->d∉rL rj/\rj.dst≠some d)/\(∀d,rj.dst=some d->d∉rL ri)/\
  (rj.op.mE=true->(ri.op.reads=true\/ri.op.fresh=true)->(i,j)∈pairs)/\(ri.op.mE=true->rj.op.reads=true->(j,i)∈pairs)
 early:∀i j ri rj,i<j->rl[i]?=some ri->rl[j]?=some rj->ri.op.mE=true->rj.op.fresh=true->(j,i)∈pairs
 lits:∀(i:Nat) (r:aN),rl[i]?=some r->r.op.reads=true->∀v,Arg.const v∈r.op.args->vT v=none
theorem kV {r:cZ} (h:r.fresh=true):r.mE=false:=by cases r<;>first|rfl|cases h
theorem iS {r:cZ} {ev:Arg->AV} {id:Nat} (h:r.cG ev=some id):r.reads=true:=by cases r<;>first|rfl|cases h
theorem IY {ev:Arg->AV} {r:cZ} {H:aA} {x:AV×aA} {id:Nat} (h:cD ev H r=some x) (hr:r.cG ev=some id):H.get id≠none:=by
 intro hn;have hc:H.eB id=none:=by simp[aA.eB,hn]
 cases r<;>simp only[cZ.cG] at hr<;>try (cases hr;done)
 . rename_i agg n a;simp only[cD] at h
   cases ha:ev a<;>rw[ha] at hr<;>simp only[vT] at hr<;>try (cases hr;done)
   all_goals (obtain rfl:=Aa hr;simp[ha,hc] at h)
 . rename_i x;simp only[cD] at h
   cases ha:ev x<;>rw[ha] at hr<;>simp only[vT] at hr<;>try (cases hr;done)
   all_goals (obtain rfl:=Aa hr;simp[ha,bJ,hc] at h)
 . rename_i n sz x lo hi mx;simp only[cD] at h;split at h
   . unfold kC at h
     cases ha:ev x<;>rw[ha] at hr<;>simp only[vT] at hr<;>try (cases hr;done)
     all_goals (obtain rfl:=Aa hr;simp[ha,hc] at h)
   cases h
 rename_i k z ok x i;simp only[cD] at h;split at h
 . cases ha:ev x<;>rw[ha] at hr<;>simp only[vT] at hr<;>try (cases hr;done)
   all_goals (obtain rfl:=Aa hr;simp[ha,hn] at h)
 cases h
section
variable {P:Program} {g:aT} {rl:List aN} {pj:Option Nat} {pairs:List (Nat×Nat)} {s0:List AV} {H0:aA} {Hs:Nat->aA} {ss:Nat->List AV} {vs:Nat->AV}
abbrev kept (H0:aA) (rl:List aN) (i:Nat):Nat:=H0.next+eH rl i
theorem vH {α:Type} (p:α->Bool):∀(l:List α) (i:Nat) (x:α),l[i]?=some x->p x=true->(l.take i).countP p<l.countP p
 |[],i,x,h,_=>by simp at h
 |y::l,0,x,h,hp=>by simp at h;subst h;simp[Fl,hp]
 |y::l,i+1,x,h,hp=>by have :=vH p l i x (by simpa using h) hp;simp only[Cw,Fl];omega
theorem rV {α:Type} (p:α->Bool):∀(l:List α) (i j:Nat) (x:α),l[i]?=some x->p x=true->i<j->(l.take i).countP p<(l.take j).countP p
 |[],i,j,x,h,_,_=>by simp at h
 |y::l,0,j+1,x,h,hp,_=>by simp at h;subst h;simp[Fl,hp]
 |y::l,i+1,j+1,x,h,hp,rP=>by have :=rV p l i j x (by simpa using h) hp (by omega);simp only[Cw,Fl];omega
theorem lB {i j:Nat} {ri rj:aN} (hi:rl[i]?=some ri) (hj:rl[j]?=some rj) (fi:ri.op.fresh=true) (fj:rj.op.fresh=true) (cF:i≠j):kept H0 rl i≠kept H0 rl j:=by
 have key:∀{i j:Nat} {ri:aN},rl[i]?=some ri->ri.op.fresh=true->i<j->eH rl i<eH rl j:=fun h f rP=>rV (fun r:aN=>r.op.fresh) rl _ _ _ h f rP
 unfold kept
 rcases Nat.lt_or_gt_of_ne cF with h|h
 . have :=key hi fi h;omega
 have :=key hj fj h;omega
theorem UF {i:Nat} {ri:aN} (hi:rl[i]?=some ri) (fi:ri.op.fresh=true):eH rl i<rl.countP (·.op.fresh):=
 vH (fun r:aN=>r.op.fresh) rl i ri hi fi
theorem cM.lI (D:cM P g rl pj pairs s0 H0 Hs ss vs) {i:Nat} {r:aN} (hi:rl[i]?=some r) (hf:r.op.fresh=true) (hw:bF (ss i) r=true):
 ∃ob val,tL (Arg.eval g (ss i)) r.op=some (ob,val)/\vs i=val (kept H0 rl i)/\Hs (i+1)=(Hs i).set (kept H0 rl i) ob:=by
 have :=(D.step i r hi).1;unfold DStep at this;rw[if_pos hw,if_pos hf] at this;exact this
theorem cM.tZ (D:cM P g rl pj pairs s0 H0 Hs ss vs) {i:Nat} {r:aN} (hi:rl[i]?=some r) (hf:r.op.fresh=false) (he:r.op.mE=false):Hs (i+1)=Hs i:=by
 have :=(D.step i r hi).1;unfold DStep at this;split at this
 . rw[if_neg (by simp[hf])] at this;split at this
   . rename_i eK;rw[eK] at he;cases he
   . exact this.elim
   . exact this.elim
   exact(DR (H1:=Hs i) he hf this (fun id _=>rfl)).1
 exact this.2
theorem cM.rK (D:cM P g rl pj pairs s0 H0 Hs ss vs) {i:Nat} {r:aN} (hi:rl[i]?=some r) (hw:bF (ss i) r=false):Hs (i+1)=Hs i/\vs i=aC:=by have :=(D.step i r hi).1;unfold DStep at this;rw[if_neg (by simp[hw])] at this;exact⟨this.2,this.1⟩
theorem cM.wE {ops:Array Oper} {anc:Nat->Nat->Bool} (D:cM P g rl pj pairs s0 H0 Hs ss vs) (K:mH ops rl pairs anc) {i:Nat} {r:aN} (hi:rl[i]?=some r) (hf:r.op.fresh=true) (hw:bF (ss i) r=true):
 ∀k,k<=i->(Hs k).get (kept H0 rl i)=none:=by
 intro k
 induction k with
 |zero=>intro _;rw[D.h0];exact D.free _ (UF hi hf)
 |succ k ih=>
  intro hk;have ihk:=ih (by omega);have eW:=(An.1 hi).1
  obtain⟨rk,MP⟩:∃rk,rl[k]?=some rk:=⟨rl[k]'(by omega),Ac (by omega)⟩
  by_cases YV:bF (ss k) rk=true
  . by_cases Qy:rk.op.mE=true
    . rw[<-D.EY i k (K.early k i rk r (by omega) MP hi Qy hf) r rk hi MP hw YV _ (.inr ⟨hf,rfl⟩)];exact ihk
    by_cases Ws:rk.op.fresh=true
    . obtain⟨ob,val,_,_,h3⟩:=D.lI MP Ws YV;rw[h3,aA.aI,if_neg (lB hi MP hf Ws (by omega))];exact ihk
    rw[D.tZ MP (by simpa using Ws) (by simpa using Qy)];exact ihk
  rw[(D.rK MP (by simpa using YV)).1];exact ihk
theorem cM.oP (D:cM P g rl pj pairs s0 H0 Hs ss vs) {id:Nat} {p q:Nat} (hq:q<=rl.length)
 (aAr:∀e r,p<=e->e<q->rl[e]?=some r->r.op.mE=true->bF (ss e) r=true->(Hs e).get id=(Hs (e+1)).get id)
 (al:∀i r,p<=i->i<q->rl[i]?=some r->r.op.fresh=true->bF (ss i) r=true->id≠kept H0 rl i):
 ∀k,p<=k->k<=q->(Hs k).get id=(Hs p).get id:=by
 intro k
 induction k with
 |zero=>intro h1 _;obtain rfl:p=0:=(by omega);rfl
 |succ k ih=>
  intro h1 h2;by_cases hp:p=k+1
  . rw[hp]
  rw[<-ih (by omega) (by omega)]
  obtain⟨rk,MP⟩:∃rk,rl[k]?=some rk:=⟨rl[k]'(by omega),Ac (by omega)⟩
  by_cases YV:bF (ss k) rk=true
  . by_cases Qy:rk.op.mE=true
    . exact(aAr k rk (by omega) (by omega) MP Qy YV).symm
    by_cases Ws:rk.op.fresh=true
    . obtain⟨ob,val,_,_,h3⟩:=D.lI MP Ws YV;rw[h3,aA.aI,if_neg (al k rk (by omega) (by omega) MP Ws YV)]
    rw[D.tZ MP (by simpa using Ws) (by simpa using Qy)]
  rw[(D.rK MP (by simpa using YV)).1]
theorem cM.Mj (D:cM P g rl pj pairs s0 H0 Hs ss vs) {p q:Nat} (hq:q<=rl.length) (aAr:∀e r,p<=e->e<q->rl[e]?=some r->r.op.mE=false):
 ∀k,p<=k->k<=q->(Hs k).next=(Hs p).next:=by
 intro k
 induction k with
 |zero=>intro h1 _;obtain rfl:p=0:=(by omega);rfl
 |succ k ih=>
  intro h1 h2;by_cases hp:p=k+1
  . rw[hp]
  rw[<-ih (by omega) (by omega)]
  obtain⟨rk,MP⟩:∃rk,rl[k]?=some rk:=⟨rl[k]'(by omega),Ac (by omega)⟩
  have Qy:=aAr k rk (by omega) (by omega) MP;by_cases YV:bF (ss k) rk=true
  . by_cases Ws:rk.op.fresh=true
    . obtain⟨ob,val,_,_,h3⟩:=D.lI MP Ws YV;rw[h3];rfl
    rw[D.tZ MP (by simpa using Ws) Qy]
  rw[(D.rK MP (by simpa using YV)).1]
theorem cM.sT (D:cM P g rl pj pairs s0 H0 Hs ss vs) {p:Nat}:∀k,p<=k->k<=rl.length->(Hs p).next<=(Hs k).next:=by
 intro k
 induction k with
 |zero=>intro h1 _;obtain rfl:p=0:=(by omega);exact Ai _
 |succ k ih=>
  intro h1 h2;by_cases hp:p=k+1
  . rw[hp];exact Ai _
  refine By (ih (by omega) (by omega)) ?_
  obtain⟨rk,MP⟩:∃rk,rl[k]?=some rk:=⟨rl[k]'(by omega),Ac (by omega)⟩
  by_cases Qy:rk.op.mE=true
  . exact D.mono k rk MP Qy
  have :=D.Mj (p:=k) (q:=k+1) h2 (fun e r h3 h4 h5=>by
   obtain rfl:e=k:=by omega
   rw[MP] at h5;cases h5
   simpa using Qy) (k+1) (by omega) (Ai _)
  omega
def writes (rl:List aN) (s0:List AV) (t i:Nat):Bool:=
 match rl[i]? with
 |some r=>r.dst==some t&&decide (t<s0.length)
 |none=>false
def qJ (S:Nat->Bool) (rl:List aN) (s0:List AV) (vs:Nat->AV) (t:Nat):Nat->AV
 |0=>s0.getD t aC
 |i+1=>if(S i&&writes rl s0 t i)=true then vs i else qJ S rl s0 vs t i
theorem MH (s:List AV) (dst:Option Nat) (v:AV) (t:Nat):(jF s dst v).getD t aC=if dst=some t/\t<s.length then v else s.getD t aC:=by
 cases dst with
 |none=>simp[jF]
 |some d=>
  simp only[jF,Ab];rw[getD_eq,getD_eq,Eh];by_cases hd:d=t
  . subst hd;by_cases hl:d<s.length
    . simp[hl]
    simp[hl]
  simp[hd]
theorem GA (s:List AV) (dst:Option Nat) (v:AV):(jF s dst v).length=s.length:=by cases dst<;>simp[jF]
theorem cM.sM (D:cM P g rl pj pairs s0 H0 Hs ss vs):∀j,j<=rl.length->(ss j).length=s0.length:=by
 intro j
 induction j with
 |zero=>intro _;rw[D.s0]
 |succ j ih=>
  intro hj
  obtain⟨r,hr⟩:∃r,rl[j]?=some r:=⟨rl[j]'(by omega),Ac (by omega)⟩
  rw[(D.step j r hr).2,GA,ih (by omega)]
theorem cM.CZ (D:cM P g rl pj pairs s0 H0 Hs ss vs) (t:Nat):∀j,j<=rl.length->(ss j).getD t aC=qJ (fun _=>true) rl s0 vs t j:=by
 intro j
 induction j with
 |zero=>intro _;rw[D.s0];rfl
 |succ j ih=>
  intro hj
  obtain⟨r,hr⟩:∃r,rl[j]?=some r:=⟨rl[j]'(by omega),Ac (by omega)⟩
  rw[(D.step j r hr).2,MH,D.sM j (by omega),ih (by omega)];simp only[qJ,writes,hr,Cu,Aj,Dr,Bj]
end
end
section
def cS (listed:Array Bool) (i:Nat):Bool:=listed.getD i false
structure mD (P:Program) (g:aT) (ops:Array Oper) (rl:List aN) (pairs:List (Nat×Nat)) (anc:Nat->Nat->Bool) (s0:List AV) (H0:aA) (Hs:Nat->aA) (ss:Nat->List AV) (vs:Nat->AV)
 (G0:Gh) (w0:World) (dl:List Deferred) (listed:Array Bool) (p:Nat) (G:Gh) (HS:aA) (w:World) (a:Act) (sS:List AV):Prop where
 size:listed.size=rl.length
 closed:∀i j,cS listed j=true->anc i j=true->cS listed i=true
 ple:p<=rl.length
 pos:∀i r,rl[i]?=some r->r.op.mE=true->(cS listed i=true↔i<p)
 rel:WR g G HS w
 tA:HS.next=(Hs p).next
 VS:∀i r,rl[i]?=some r->r.op.fresh=true->(∃l,G.loc (kept H0 rl i)=some l)->cS listed i=true/\bF (ss i) r=true
 cont:∀id l,G.loc id=some l->
  (∃i r,rl[i]?=some r/\r.op.fresh=true/\cS listed i=true/\bF (ss i) r=true/\p<=i/\id=kept H0 rl i/\HS.get id=(Hs (i+1)).get id)\/
  ((∀i r,p<=i->rl[i]?=some r->r.op.fresh=true->bF (ss i) r=true->id≠kept H0 rl i)/\HS.get id=(Hs p).get id)
 fh:∀i r,p<=i->rl[i]?=some r->r.op.fresh=true->cS listed i=true->bF (ss i) r=true->∀l,G.loc (kept H0 rl i)=some l->
  ∀iO l',iO≠kept H0 rl i->G.loc iO=some l'->HS.live iO->l'.cC≠l.cC
 ext:Ext G0 H0 w0 G HS w
 qW:SR G w sS a
 last:∀t,sS.getD t aC=qJ (cS listed) rl s0 vs t rl.length
 len:sS.length=s0.length
 dfr:a.defers=dl
section
variable {P:Program} {g:aT} {ops:Array Oper} {rl:List aN} {pj:Option Nat} {pairs:List (Nat×Nat)} {anc:Nat->Nat->Bool} {s0:List AV} {H0:aA} {Hs:Nat->aA} {ss:Nat->List AV} {vs:Nat->AV}
variable {G0:Gh} {w0:World} {dl:List Deferred} {listed:Array Bool} {p:Nat} {G:Gh} {HS:aA} {w:World} {a:Act} {sS:List AV}
theorem oM {S S':Nat->Bool} {t:Nat}:∀m,(∀i,i<m->(S i&&writes rl s0 t i)=(S' i&&writes rl s0 t i))->qJ S rl s0 vs t m=qJ S' rl s0 vs t m
 |0,_=>rfl
 |m+1,h=>by simp only[qJ];rw[h m (by omega),oM m (fun i hi=>h i (by omega))]
theorem tV {S:Nat->Bool} {t k:Nat}:∀m,k<=m->(∀i,k<=i->i<m->(S i&&writes rl s0 t i)=false)->qJ S rl s0 vs t m=qJ S rl s0 vs t k
 |0,hk,_=>by obtain rfl:k=0:=(by omega);rfl
 |m+1,hk,h=>by
  by_cases he:k=m+1
  . rw[he]
  simp only[qJ];rw[h m (by omega) (by omega)];simp only[Ay,Bu];exact tV m (by omega) (fun i h1 h2=>h i h1 (by omega))
theorem wP {t i:Nat} (h:writes rl s0 t i=true):∃r,rl[i]?=some r/\r.dst=some t/\t<s0.length:=by
 unfold writes at h;split at h
 . rename_i r hr;simp only[Aj,Dr,Bj] at h;exact⟨r,hr,h.1,h.2⟩
 cases h
structure Qv (ops:Array Oper) (listed:Array Bool) (j:Nat):Prop where
 lt:j<ops.size
 not:cS listed j=false
 aJx:∀o,ops[j]?=some o->∀e∈o.after,Region.binds .any e=true->cS listed e.on=true
variable (I:mD P g ops rl pairs anc s0 H0 Hs ss vs G0 w0 dl listed p G HS w a sS) (D:cM P g rl pj pairs s0 H0 Hs ss vs) (K:mH ops rl pairs anc)
include I K
theorem mD.rS {j:Nat} (hj:Qv ops listed j) {i:Nat} (h:anc i j=true):cS listed i=true:=by
 obtain⟨o,ho,e,he,hb,hc⟩:=K.wit i j h;have hd:=hj.aJx o ho e he hb
 rcases hc with rfl|hc
 . exact hd
 exact I.closed _ _ hd hc
theorem mD.aJo {j:Nat} {r:aN} (hj:Qv ops listed j) (hr:rl[j]?=some r) {t:Nat} (ht:t∈rL r) (D:cM P g rl pj pairs s0 H0 Hs ss vs):sS.getD t aC=(ss j).getD t aC:=by
 have eW:=(An.1 hr).1;rw[I.last t,D.CZ t j (by omega)];rw[tV (k:=j) rl.length (by omega) (fun i h1 h2=>?_)]
 . refine oM j (fun i hi=>?_);by_cases hw:writes rl s0 t i=true
   . obtain⟨ri,Pk,hd,_⟩:=wP hw
     have :anc i j=true:=by
      cases hc:anc i j with
      |true=>rfl
      |false=>exact absurd ht ((K.cmp i j ri r hi Pk hr hc).2.1 t hd).1
     rw[I.rS K hj this]
   simp[hw]
 cases hs:cS listed i with
 |false=>rfl
 |true=>
  cases hw:writes rl s0 t i with
  |false=>rfl
  |true=>
   obtain⟨ri,Pk,hd,_⟩:=wP hw;have cF:i≠j:=fun he=>by rw[he,hj.not] at hs;cases hs
   have :anc j i=true:=by
    cases hc:anc j i with
    |true=>rfl
    |false=>exact absurd ht ((K.cmp j i r ri (by omega) hr Pk hc).2.2.1 t hd)
   have :=I.closed j i hs this;rw[hj.not] at this;cases this
theorem mD.eval_eq {j:Nat} {r:aN} (hj:Qv ops listed j) (hr:rl[j]?=some r) (D:cM P g rl pj pairs s0 H0 Hs ss vs):∀y∈r.op.args,Arg.eval g sS y=Arg.eval g (ss j) y:=by
 intro y hy
 cases y with
 |tmp t=>
  have :t∈rL r:=by unfold rL;refine Az.2 (.inl (Fh.2 ⟨_,hy,?_⟩));simp[Arg.tmps]
  exact I.aJo K hj hr this D
 |const v=>rfl
 |fY n=>rfl
theorem mD.Wi {j:Nat} {r:aN} (hj:Qv ops listed j) (hr:rl[j]?=some r) (D:cM P g rl pj pairs s0 H0 Hs ss vs):bF sS r=bF (ss j) r:=by
 unfold bF;split
 . rfl
 rename_i d b hg;rw[I.aJo K hj hr (t:=d) (by unfold rL;rw[hg];simp) D]
theorem Lu {listed:Array Bool} {j:Nat} (hj:j<listed.size) (i:Nat):cS (listed.setIfInBounds j true) i=if i=j then true else cS listed i:=by
 unfold cS;rw[Ba,Ba,En];by_cases h:j=i
 . subst h;simp[hj]
 rw[if_neg h,if_neg (Ne.symm h)]
theorem mD.KN {j:Nat} {r:aN} (hj:Qv ops listed j) (hr:rl[j]?=some r) (he:r.op.mE=true):p<=j/\∀e re,p<=e->e<j->rl[e]?=some re->re.op.mE=false:=by
 have Tx:p<=j:=by refine Gz fun eW=>?_;have :=(I.pos j r hr he).2 eW;rw[hj.not] at this;cases this
 refine⟨Tx,fun e re h1 h2 OW=>?_⟩
 cases DF:re.op.mE with
 |false=>rfl
 |true=>
  have :anc e j=true:=by
   cases hc:anc e j with
   |true=>rfl
   |false=>have :=(K.cmp e j re r h2 OW hr hc).1 DF;rw[he] at this;cases this
  have :=(I.pos e re OW DF).1 (I.rS K hj this);omega
theorem mD.next {j:Nat} {r:aN} (hj:Qv ops listed j) (hr:rl[j]?=some r) {p':Nat} {G':Gh} {ag:aA} {w':World} {u:Value} (au:p'=if r.op.mE=true then j+1 else p)
 (aCm:WR g G' ag w') (aNy:ag.next=(Hs p').next)
 (aDd:∀i r',rl[i]?=some r'->r'.op.fresh=true->(∃l,G'.loc (kept H0 rl i)=some l)->(i=j\/cS listed i=true)/\bF (ss i) r'=true)
 (aDb:∀id l,G'.loc id=some l->
   (∃i r,rl[i]?=some r/\r.op.fresh=true/\(i=j\/cS listed i=true)/\bF (ss i) r=true/\p'<=i/\id=kept H0 rl i/\ag.get id=(Hs (i+1)).get id)\/
   ((∀i r,p'<=i->rl[i]?=some r->r.op.fresh=true->bF (ss i) r=true->id≠kept H0 rl i)/\ag.get id=(Hs p').get id))
 (aDf:∀i r,p'<=i->rl[i]?=some r->r.op.fresh=true->(i=j\/cS listed i=true)->bF (ss i) r=true->∀l,G'.loc (kept H0 rl i)=some l->
   ∀iO l',iO≠kept H0 rl i->G'.loc iO=some l'->ag.live iO->l'.cC≠l.cC)
 (ext':Ext G0 H0 w0 G' ag w') (hv:VR G' w' (vs j) u) (DG:SR G' w' sS a):
 mD P g ops rl pairs anc s0 H0 Hs ss vs G0 w0 dl (listed.setIfInBounds j true) p' G' ag w' (a.put r.dst u) (jF sS r.dst (vs j)):=by
 have eW:=(An.1 hr).1
 have sK:∀i,cS (listed.setIfInBounds j true) i=if i=j then true else cS listed i:=Lu I K (by rw[I.size];exact eW)
 have Pg:∀i,(i=j\/cS listed i=true)↔cS (listed.setIfInBounds j true) i=true:=fun i=>by rw[sK];by_cases hi:i=j<;>simp[hi]
 refine⟨by simp[I.size],fun i k h1 h2=>?_,?_,fun i ri Pk hei=>?_,aCm,aNy,fun i r' h1 h2 h3=>?_,fun id l hl=>?_,fun i r' h1 h2 h3 h4 h5=>?_,ext',DG.put r.dst hv,fun t=>?_,?_,?_⟩
 . rw[<-Pg] at h1 ⊢
   rcases h1 with rfl|h1
   . exact .inr (I.rS K hj h2)
   exact .inr (I.closed i k h1 h2)
 . rw[au];split
   . omega
   exact I.ple
 . rw[<-Pg];by_cases he:r.op.mE=true
   . rw[au,if_pos he];obtain⟨h1,h2⟩:=I.KN K hj hr he;constructor
     . rintro(rfl|h)
       . omega
       have :=(I.pos i ri Pk hei).1 h;omega
     intro h;by_cases hi:i=j
     . exact .inl hi
     refine .inr ((I.pos i ri Pk hei).2 (Nat.lt_of_not_le fun hle=>?_));have :=h2 i ri hle (by omega) Pk;rw[hei] at this;cases this
   rw[au,if_neg he];rw[<-I.pos i ri Pk hei];constructor
   . rintro(rfl|h)
     . rw[hr] at Pk;cases Pk;exact absurd hei he
     exact h
   exact .inr
 . have :=aDd i r' h1 h2 h3;exact⟨(Pg i).1 this.1,this.2⟩
 . rcases aDb id l hl with ⟨i,ri,c1,c2,c3,c4⟩|h
   . exact .inl ⟨i,ri,c1,c2,(Pg i).1 c3,c4⟩
   exact .inr h
 . exact aDf i r' h1 h2 h3 ((Pg i).2 h4) h5
 . rw[MH,I.len,I.last t];by_cases hw:r.dst=some t/\t<s0.length
   . rw[if_pos hw];have hwr:writes rl s0 t j=true:=(by simp[writes,hr,hw]);rw[tV (k:=j+1) rl.length (by omega) (fun i h1 h2=>?_)]
     . simp only[qJ,sK j,if_true,hwr,Cx]
     rw[sK,if_neg (by omega)]
     cases hs:cS listed i with
     |false=>rfl
     |true=>
      cases hwi:writes rl s0 t i with
      |false=>rfl
      |true=>
       obtain⟨ri,Pk,hd,_⟩:=wP hwi
       have :anc j i=true:=by
        cases hc:anc j i with
        |true=>rfl
        |false=>exact absurd hd ((K.cmp j i r ri (by omega) hr Pk hc).2.1 t hw.1).2
       have :=I.closed j i hs this;rw[hj.not] at this;cases this
   rw[if_neg hw];refine oM rl.length (fun i hi=>?_);rw[sK];by_cases rP:i=j
   . subst rP
     have :writes rl s0 t i=false:=by simp only[writes,hr];simpa using hw
     rw[this];simp
   rw[if_neg rP]
 . rw[GA,I.len]
 cases r.dst<;>exact I.dfr
end
end
section
theorem rI {r:cZ} (h:r.reads=true):r.mE=false:=by cases r<;>first|rfl|cases h
theorem uK {r:cZ} (h:r.reads=true):r.fresh=false:=by cases r<;>first|rfl|cases h
theorem YW {G:Gh} {w:World} {v:AV} {u:Value} {id:Nat} (h:vT v=some id) (hv:VR G w v u):∃l,G.loc id=some l:=by
 cases hv<;>simp only[vT] at h<;>first
  |(cases h;done)
  |(obtain rfl:=Aa h;exact⟨_,by assumption⟩)
theorem QX {ev:Arg->AV} {r:cZ} {id:Nat} (h:r.cG ev=some id):∃y∈r.args,vT (ev y)=some id:=by
 cases r<;>simp only[cZ.cG] at h<;>first
  |(cases h;done)
  |exact⟨_,by simp[cZ.args],h⟩
theorem Lb {ev ev':Arg->AV} {r:cZ} (h:∀y∈r.args,ev y=ev' y):r.cG ev=r.cG ev':=by
 cases r<;>simp only[cZ.cG]<;>first
  |rfl
  |rw[h _ (by simp[cZ.args])]
theorem PY {ev:Arg->AV} {r:cZ} {ob:dU} {val:Nat->AV} (h:tL ev r=some (ob,val)):ob.live=true:=by
 cases r<;>simp only[tL] at h<;>first
  |(cases h;done)
  |(obtain⟨rfl,rfl⟩:=Prod.mk.inj (Aa h);rfl)
  |(repeat' (split at h)
    all_goals first
     |(cases h;done)
     |(obtain⟨rfl,rfl⟩:=Prod.mk.inj (Aa h);rfl))
section
variable {P:Program} {g:aT} {ops:Array Oper} {rl:List aN} {pj:Option Nat} {pairs:List (Nat×Nat)} {anc:Nat->Nat->Bool} {s0:List AV} {H0:aA} {Hs:Nat->aA} {ss:Nat->List AV} {vs:Nat->AV}
variable {G0:Gh} {w0:World} {dl:List Deferred} {listed:Array Bool} {p:Nat} {G:Gh} {HS:aA} {w:World} {a:Act} {sS:List AV}
variable (I:mD P g ops rl pairs anc s0 H0 Hs ss vs G0 w0 dl listed p G HS w a sS) (D:cM P g rl pj pairs s0 H0 Hs ss vs) (K:mH ops rl pairs anc)
include I K D
theorem mD.UK {j e:Nat} (hj:Qv ops listed j) (he:cS listed e=true):anc j e=false:=by
 cases hc:anc j e with
 |false=>rfl
 |true=>have :=I.closed j e he hc;rw[hj.not] at this;cases this
theorem mD.QG {j e:Nat} (hj:Qv ops listed j) (he:cS listed e=false):anc e j=false:=by
 cases hc:anc e j with
 |false=>rfl
 |true=>have :=I.rS K hj hc;rw[he] at this;cases this
theorem mD.Zm {e:Nat} {re:aN} (OW:rl[e]?=some re) (DF:re.op.mE=true) (h:p<=e):cS listed e=false:=by
 cases hs:cS listed e with
 |false=>rfl
 |true=>have :=(I.pos e re OW DF).1 hs;omega
theorem mD.WJ {j:Nat} {r:aN} (hj:Qv ops listed j) (hr:rl[j]?=some r) (hw:bF (ss j) r=true) {id:Nat} (bZ:r.op.cG (Arg.eval g (ss j))=some id) {l:Loc} (hl:G.loc id=some l)
 (YT:(Hs j).get id≠none):HS.get id=(Hs j).get id:=by
 have RC:=iS bZ;have eW:=(An.1 hr).1
 rcases I.cont id l hl with ⟨i,ri,h1,h2,h3,h4,h5,rfl,h7⟩|⟨h1,h2⟩
 . have cF:i≠j:=fun he=>by rw[he,hj.not] at h3;cases h3
   by_cases rP:i<j
   . rw[h7];refine(D.oP (p:=i+1) (q:=j) (by omega) (fun e re q1 q2 q3 q4 q5=>?_) (fun k rk q1 q2 q3 q4 q5=>lB h1 q3 h2 q4 (by omega)) j (by omega) (Ai _)).symm;have Nd:=I.Zm D K q3 q4 (by omega);exact D.EY j e ((K.cmp e j re r q2 q3 hr (I.QG D K hj Nd)).2.2.2.2 q4 RC) r re hr q3 hw q5 _ (.inl bZ)
   exact absurd (D.wE K h1 h2 h4 j (by omega)) YT
 rw[h2];by_cases Tx:p<=j
 . refine(D.oP (p:=p) (q:=j) (by omega) (fun e re q1 q2 q3 q4 q5=>?_) (fun k rk q1 q2 q3 q4 q5=>h1 k rk q1 q3 q4 q5) j Tx (Ai _)).symm;have Nd:=I.Zm D K q3 q4 q1;exact D.EY j e ((K.cmp e j re r q2 q3 hr (I.QG D K hj Nd)).2.2.2.2 q4 RC) r re hr q3 hw q5 _ (.inl bZ)
 refine D.oP (p:=j) (q:=p) I.ple (fun e re q1 q2 q3 q4 q5=>?_) (fun k rk q1 q2 q3 q4 q5 he=>?_) p (by omega) (Ai _)
 . have cF:e≠j:=fun he=>by
    subst he;rw[hr] at q3;cases q3;rw[rI RC] at q4;cases q4
   have hd:=(I.pos e re q3 q4).2 q2;exact D.EY j e ((K.cmp j e r re (by omega) hr q3 (I.UK D K hj hd)).2.2.2.1 q4 (.inl RC)) r re hr q3 hw q5 _ (.inl bZ)
 rw[he] at YT;exact YT (D.wE K q3 q4 q5 j q1)
theorem mD.tU {i:Nat} {ri:aN} (hi:rl[i]?=some ri) (hf:ri.op.fresh=true) {k:Nat} (hk:k<=rl.length):kept H0 rl i<(Hs k).next:=by have h1:=D.sT (p:=0) k (Cs _) hk;have h2:=UF (rl:=rl) hi hf;rw[D.h0] at h1;unfold kept;simp only at h1;omega
theorem mD.RW {j:Nat} {r:aN} (hj:Qv ops listed j) (hr:rl[j]?=some r) (he:r.op.mE=true):∀id l,G.loc id=some l->
 (∃i ri,rl[i]?=some ri/\ri.op.fresh=true/\cS listed i=true/\bF (ss i) ri=true/\j<i/\id=kept H0 rl i/\HS.get id=(Hs (i+1)).get id/\(Hs j).get id=none)\/
 ((∀i ri,j<=i->rl[i]?=some ri->ri.op.fresh=true->bF (ss i) ri=true->id≠kept H0 rl i)/\HS.get id=(Hs j).get id):=by
 intro id l hl;have eW:=(An.1 hr).1;obtain⟨Tx,ie⟩:=I.KN K hj hr he
 have noE:∀{q:Nat},p<=q->∀e re,q<=e->e<j->rl[e]?=some re->re.op.mE=true->bF (ss e) re=true->(Hs e).get id=(Hs (e+1)).get id:=fun hq e re q1 q2 q3 q4 q5=>by have :=ie e re (by omega) q2 q3;rw[q4] at this;cases this
 rcases I.cont id l hl with ⟨i,ri,h1,h2,h3,h4,h5,h6,h7⟩|⟨h1,h2⟩
 . have cF:i≠j:=fun hh=>by rw[hh,hj.not] at h3;cases h3
   by_cases rP:i<j
   . refine .inr ⟨fun k rk q1 q2 q3 q4=>?_,?_⟩
     . rw[h6];exact lB h1 q2 h2 q3 (by omega)
     rw[h7];exact(D.oP (p:=i+1) (q:=j) (by omega) (noE (by omega)) (fun k rk q1 q2 q3 q4 q5=>by rw[h6];exact lB h1 q3 h2 q4 (by omega)) j (by omega) (Ai _)).symm
   exact .inl ⟨i,ri,h1,h2,h3,h4,by omega,h6,h7,by rw[h6];exact D.wE K h1 h2 h4 j (by omega)⟩
 refine .inr ⟨fun k rk q1 q2 q3 q4=>h1 k rk (by omega) q2 q3 q4,?_⟩;rw[h2];exact(D.oP (p:=p) (q:=j) (by omega) (noE (Ai _)) (fun k rk q1 q2 q3 q4 q5=>h1 k rk q1 q3 q4 q5) j Tx (Ai _)).symm
theorem mD.Nz {j:Nat} {r:aN} (hj:Qv ops listed j) (hr:rl[j]?=some r) (he:r.op.mE=true):WR g G (Hs j) w:=by
 have hA:=I.RW D K hj hr he;have eW:=(An.1 hr).1;obtain⟨Tx,ie⟩:=I.KN K hj hr he
 have cJ:∀{id l o},G.loc id=some l->(Hs j).get id=some o->HS.get id=some o:=fun hl ho=>by
  rcases hA _ _ hl with ⟨_,_,_,_,_,_,_,_,_,hn⟩|⟨_,h⟩
  . rw[hn] at ho;cases ho
  rw[h];exact ho
 have nF:∀{id l},G.loc id=some l->(Hs j).live id->HS.live id:=fun hl ⟨o,ho,hv⟩=>⟨o,cJ hl ho,hv⟩
 exact {
  cells:=fun id l cs dH h1 h2=>I.rel.cells id l cs dH h1 (cJ h1 h2)
  room:=fun id l h1 h2=>I.rel.room id l h1 (h2.imp (fun⟨cs,dH,h⟩=>⟨cs,dH,cJ h1 h⟩) (fun h=>cJ h1 h))
  iN:=fun id iO l l' cF h1 h2 h3 h4=>I.rel.iN id iO l l' cF h1 h2 (nF h1 h3) (nF h2 h4)
  gW:=fun id l h1 h2=>I.rel.gW id l h1 (nF h1 h2)
  fQ:=fun id l o h1 h2=>I.rel.fQ id l o h1 (cJ h1 h2)
  lt:=fun id l h1=>by
   have :=I.rel.lt id l h1;rw[I.tA] at this
   rwa [D.Mj (p:=p) (q:=j) (by omega) ie j Tx (Ai _)]
  fU:=I.rel.fU
  fY:=I.rel.fY
  xA:=I.rel.xA
  mo:=I.rel.mo}
theorem mD.Vk (j:Nat) (H:aA):∀m,m<=rl.length->∃Hm:aA,Hm.next=H.next/\
 (∀i ri,i<m->rl[i]?=some ri->ri.op.fresh=true->cS listed i=true->bF (ss i) ri=true->j<i->Hm.get (kept H0 rl i)=(Hs (i+1)).get (kept H0 rl i))/\
 (∀id,(∀i ri,i<m->rl[i]?=some ri->ri.op.fresh=true->cS listed i=true->bF (ss i) ri=true->j<i->id≠kept H0 rl i)->Hm.get id=H.get id):=by
 intro m
 induction m with
 |zero=>exact fun _=>⟨H,rfl,fun i ri h=>absurd h (Bh i),fun id _=>rfl⟩
 |succ m ih=>
  intro hm;obtain⟨Hm,h1,h2,h3⟩:=ih (by omega)
  obtain⟨rm,hrm⟩:∃r,rl[m]?=some r:=⟨rl[m]'(by omega),Ac (by omega)⟩
  by_cases hc:rm.op.fresh=true/\cS listed m=true/\bF (ss m) rm=true/\j<m
  . obtain⟨c1,c2,c3,c4⟩:=hc;obtain⟨ob,val,_,_,e3⟩:=D.lI hrm c1 c3;have ar:(Hs (m+1)).get (kept H0 rl m)=some ob:=by rw[e3,aA.aI,if_pos rfl]
    refine⟨Hm.set (kept H0 rl m) ob,h1,fun i ri q1 q2 q3 q4 q5 q6=>?_,fun id bZ=>?_⟩
    . rw[aA.aI];by_cases him:i=m
      . subst him;rw[if_pos rfl,ar]
      rw[if_neg (lB q2 hrm q3 c1 him)];exact h2 i ri (by omega) q2 q3 q4 q5 q6
    rw[aA.aI,if_neg (bZ m rm (by omega) hrm c1 c2 c3 c4)];exact h3 id (fun i ri q1=>bZ i ri (by omega))
  refine⟨Hm,h1,fun i ri q1 q2 q3 q4 q5 q6=>?_,fun id bZ=>h3 id (fun i ri q1=>bZ i ri (by omega))⟩;by_cases him:i=m
  . subst him;rw[hrm] at q2;cases q2;exact absurd ⟨q3,q4,q5,q6⟩ hc
  exact h2 i ri (by omega) q2 q3 q4 q5 q6
theorem mD.DQ (zN:∀id l,G0.loc id=some l->id<H0.next) {j:Nat} {r:aN} (hj:Qv ops listed j) (hr:rl[j]?=some r) (he:r.op.mE=true) {G1:Gh} {w1:World} {u:Value}
 (Lc:WR g G1 (Hs (j+1)) w1) (e1:Ext G (Hs j) w G1 (Hs (j+1)) w1) (hv:VR G1 w1 (vs j) u):
 ∃Ut,mD P g ops rl pairs anc s0 H0 Hs ss vs G0 w0 dl (listed.setIfInBounds j true) (j+1) G1 Ut w1 (a.put r.dst u) (jF sS r.dst (vs j)):=by
 have hA:=I.RW D K hj hr he;have eW:=(An.1 hr).1;obtain⟨Tx,ie⟩:=I.KN K hj hr he;obtain⟨Ut,n1,n2,n3⟩:=I.Vk D K j (Hs (j+1)) rl.length (Ai _)
 let qY:Nat->Prop:=fun id=>∃i ri,rl[i]?=some ri/\ri.op.fresh=true/\cS listed i=true/\bF (ss i) ri=true/\j<i/\id=kept H0 rl i
 have YP:∀id,qY id->∃i ri,rl[i]?=some ri/\ri.op.fresh=true/\cS listed i=true/\bF (ss i) ri=true/\j<i/\id=kept H0 rl i/\Ut.get id=(Hs (i+1)).get id:=fun id ⟨i,ri,q1,q2,q3,q4,q5,q6⟩=>⟨i,ri,q1,q2,q3,q4,q5,q6,by rw[q6];exact n2 i ri (An.1 q1).1 q1 q2 q3 q4 q5⟩
 have Jr:∀id,¬qY id->Ut.get id=(Hs (j+1)).get id:=fun id hn=>n3 id (fun i ri q0 q1 q2 q3 q4 q5 he=>hn ⟨i,ri,q1,q2,q3,q4,q5,he⟩)
 have vY:∀{id l},qY id->G1.loc id=some l->G.loc id=some l:=fun {id l} ⟨i,ri,q1,q2,q3,q4,q5,q6⟩ uP=>by
  cases hl:G.loc id with
  |none=>have :=e1.news id l uP hl;have h2:=I.tU D K q1 q2 (k:=j) (by omega);rw[q6] at this;omega
  |some l'=>rw[e1.loc id l' hl] at uP;exact uP
 have BZ:∀{id l},qY id->G.loc id=some l->Ut.get id=HS.get id/\(Hs j).get id=none:=fun {id l} hL hl=>by
  obtain⟨i,ri,q1,q2,q3,q4,q5,q6,q7⟩:=YP id hL
  rcases hA id l hl with ⟨i',ri',p1,p2,p3,p4,p5,p6,p7,p8⟩|⟨h1,_⟩
  . have :i=i':=by
     refine Hz fun cF=>?_;exact lB q1 p1 q2 p2 cF (q6.symm.trans p6)
    subst this;exact⟨q7.trans p7.symm,p8⟩
  exact absurd q6 (h1 i ri (by omega) q1 q2 q4)
 have CE:∀{dN l0},G.loc dN=some l0->(Hs j).live dN->HS.live dN/\¬qY dN:=fun {dN l0} LG ⟨o,ho,hv⟩=>by
  rcases hA dN l0 LG with ⟨_,_,_,_,_,_,_,_,_,hn⟩|⟨h1,h2⟩
  . rw[hn] at ho;cases ho
  refine⟨⟨o,by rw[h2];exact ho,hv⟩,fun hL=>?_⟩;have :=(BZ hL LG).2;rw[this] at ho;cases ho
 have Pt:∀{id l},qY id->G.loc id=some l->∀iO l',iO≠id->G.loc iO=some l'->HS.live iO->l'.cC≠l.cC:=fun {id l} ⟨i,ri,q1,q2,q3,q4,q5,q6⟩ hl iO l' cF lY kA=>by rw[q6] at hl cF;exact I.fh i ri (by omega) q1 q2 q3 q4 l hl iO l' cF lY kA
 have sL:∀{id l},qY id->G.loc id=some l->HS.live id:=fun {id l} hL hl=>by obtain⟨i,ri,q1,q2,q3,q4,q5,q6,q7⟩:=YP id hL;obtain⟨ob,val,f1,_,f3⟩:=D.lI q1 q2 q4;refine⟨ob,?_,PY f1⟩;rw[<-(BZ hL hl).1,q7,q6,f3,aA.aI,if_pos rfl]
 have JB:∀{id l},qY id->G.loc id=some l->∀dN l0,G.loc dN=some l0->(Hs j).live dN->l0.cC≠l.cC:=fun hL hl dN l0 LG SH=>by obtain⟨h1,h2⟩:=CE LG SH;exact Pt hL hl dN l0 (fun he=>h2 (he▸hL)) LG h1
 have zt:∀{id l},qY id->G.loc id=some l->∀iO l',G1.loc iO=some l'->(Hs (j+1)).live iO->l'.cC≠l.cC:=fun hL hl iO l' lY kA=>by
  have hb:=I.rel.kI hl (sL hL hl)
  rcases e1.jK iO l' lY kA with h|⟨dN,l0,h1,h2,h3⟩
  . omega
  rw[<-h3];exact JB hL hl dN l0 h1 h2
 have BR:∀{id l},qY id->G.loc id=some l->w1.heap[l.cC]?=w.heap[l.cC]?:=fun hL hl=>e1.frame _ (I.rel.kI hl (sL hL hl)) (fun dN l0 h1 h2=>JB hL hl dN l0 h1 h2)
 have xD:∀{id},Ut.live id->qY id\/(¬qY id/\(Hs (j+1)).live id):=fun {id} ⟨o,ho,hv⟩=>by
  by_cases hL:qY id
  . exact .inl hL
  exact .inr ⟨hL,o,by rw[<-Jr id hL];exact ho,hv⟩
 have KV:∀{id l},qY id->G1.loc id=some l->∀iO l',iO≠id->G1.loc iO=some l'->Ut.live iO->l'.cC≠l.cC:=fun {id l} hL uP iO l' cF lY kA=>by
  have hl:=vY hL uP
  rcases xD kA with hL'|⟨_,kA⟩
  . exact Pt hL hl iO l' cF (vY hL' lY) (sL hL' (vY hL' lY))
  exact zt hL hl iO l' lY kA
 have hm:∀{x y},VR G w x y->VR G1 w1 x y:=fun hx=>hx.mono e1.loc e1.fB
 have aCm:WR g G1 Ut w1:={
  cells:=fun id l cs dH h1 h2=>by
   by_cases hL:qY id
   . have hl:=vY hL h1;obtain⟨a1,a2,a3,a4,a5⟩:=I.rel.cells id l cs dH hl (by rw[<-(BZ hL hl).1];exact h2);refine⟨a1,a2,a3,a4,fun k hk=>?_⟩;obtain⟨x,hx,a8⟩:=a5 k hk;exact⟨x,by rw[eV (BR hL hl)];exact hx,hm a8⟩
   exact Lc.cells id l cs dH h1 (by rw[<-Jr id hL];exact h2)
  room:=fun id l h1 h2=>by
   by_cases hL:qY id
   . have hl:=vY hL h1;obtain⟨c,el,fz,a1,a2,a3⟩:=I.rel.room id l hl (by rw[<-(BZ hL hl).1];exact h2);exact⟨c,el,fz,by rw[BR hL hl];exact a1,a2,fun k hk=>by rw[iR (BR hL hl)];exact a3 k hk⟩
   exact Lc.room id l h1 (by rw[<-Jr id hL];exact h2)
  iN:=fun id iO l l' cF h1 h2 qN DH=>by
   by_cases hL:qY id
   . exact .inl (Ne.symm (KV hL h1 iO l' (Ne.symm cF) h2 DH))
   by_cases hL':qY iO
   . exact .inl (KV hL' h2 id l cF h1 qN)
   rcases xD qN with h|⟨_,qN⟩
   . exact absurd h hL
   rcases xD DH with h|⟨_,DH⟩
   . exact absurd h hL'
   exact Lc.iN id iO l l' cF h1 h2 qN DH
  gW:=fun id l h1 qN k hk hi=>by
   rcases xD qN with hL|⟨_,qN⟩
   . have hl:=vY hL h1
     rcases e1.mU _ _ hi with h|h|⟨dN,l0,q1,q2,q3⟩
     . exact I.rel.gW id l hl (sL hL hl) k hk h
     . have :=I.rel.kI hl (sL hL hl);omega
     exact JB hL hl dN l0 q1 q2 q3
   exact Lc.gW id l h1 qN k hk hi
  fQ:=fun id l o h1 h2 hk=>by
   by_cases hL:qY id
   . have hl:=vY hL h1;obtain⟨a1,a2,a3⟩:=I.rel.fQ id l o hl (by rw[<-(BZ hL hl).1];exact h2) hk;exact⟨a1,a2,a3.mono (BR hL hl) fun _ _=>hm⟩
   exact Lc.fQ id l o h1 (by rw[<-Jr id hL];exact h2) hk
  lt:=fun id l h1=>by rw[n1];exact Lc.lt id l h1
  fU:=Lc.fU
  fY:=Lc.fY
  xA:=Lc.xA
  mo:=Lc.mo}
 have ext':Ext G0 H0 w0 G1 Ut w1:={
  loc:=fun id l h=>e1.loc _ _ (I.ext.loc _ _ h)
  fB:=fun b o hi=>⟨(e1.fB _ _ (I.ext.fB _ _ hi).1).1,((e1.fB _ _ (I.ext.fB _ _ hi).1).2).trans (I.ext.fB _ _ hi).2⟩
  size:=By I.ext.size e1.size
  frame:=fun b hb hn=>by
   rw[e1.frame b (Aw hb I.ext.size) (fun id l h1 h2=>?_),I.ext.frame b hb hn]
   rcases I.ext.jK id l h1 (CE h1 h2).1 with h|⟨dN,l0,q1,q2,q3⟩
   . omega
   rw[<-q3];exact hn dN l0 q1 q2
  jK:=fun id l h1 h2=>by
   have CL:∀{id l},G.loc id=some l->HS.live id->w0.heap.size<=l.cC\/∃dN l0,G0.loc dN=some l0/\H0.live dN/\l0.cC=l.cC:=fun h1 h2=>I.ext.jK _ _ h1 h2
   rcases xD h2 with hL|⟨_,h2⟩
   . have hl:=vY hL h1;exact CL hl (sL hL hl)
   rcases e1.jK id l h1 h2 with h|⟨dN,l0,q1,q2,q3⟩
   . exact .inl (By I.ext.size h)
   rw[<-q3];exact CL q1 (CE q1 q2).1
  mU:=fun b o hi=>by
   rcases e1.mU b o hi with h|h|⟨dN,l0,q1,q2,q3⟩
   . exact I.ext.mU b o h
   . exact .inr (.inl (By I.ext.size h))
   rcases I.ext.jK dN l0 q1 (CE q1 q2).1 with h|⟨id1,l1,p1,p2,p3⟩
   . exact .inr (.inl (by omega))
   exact .inr (.inr ⟨id1,l1,p1,p2,p3.trans q3⟩)
  next:=by have h1:=I.ext.next;rw[I.tA] at h1;rw[n1];exact By h1 (D.sT (p:=p) (j+1) (by omega) (by omega))
  news:=fun id l h1 h2=>by
   cases hl:G.loc id with
   |none=>have :=e1.news id l h1 hl;have h3:=I.ext.next;rw[I.tA] at h3;exact By (By h3 (D.sT (p:=p) j Tx (by omega))) this
   |some l'=>exact I.ext.news id l' hl h2
  dead:=fun id l h1 h2=>by
   have hl:=I.ext.loc id l h1
   have hnl:¬qY id:=fun⟨i,ri,q1,q2,q3,q4,q5,q6⟩=>by have :=zN id l h1;rw[q6] at this;unfold kept at this;omega
   rcases xD h2 with h|⟨_,h2⟩
   . exact absurd h hnl
   exact I.ext.dead id l h1 (CE hl (e1.dead id l hl h2)).1
  mo:=e1.mo.trans I.ext.mo
  same:=I.ext.same.trans (I.ext.mo▸e1.same)}
 refine⟨Ut,I.next K hj hr (p':=j+1) (by rw[if_pos he]) aCm (by rw[n1]) (fun i ri h1 h2 ⟨l,h3⟩=>?_) (fun id l uP=>?_) (fun i ri h1 h2 h3 h4 h5 l uP iO l' cF lY kA=>?_) ext' hv (I.qW.ext e1)⟩
 . have hl:∃l,G.loc (kept H0 rl i)=some l:=by
    cases hl:G.loc (kept H0 rl i) with
    |none=>have :=e1.news _ l h3 hl;have :=I.tU D K h1 h2 (k:=j) (by omega);omega
    |some l'=>exact⟨l',rfl⟩
   have :=I.VS i ri h1 h2 hl;exact⟨.inr this.1,this.2⟩
 . by_cases hL:qY id
   . obtain⟨i,ri,q1,q2,q3,q4,q5,q6,q7⟩:=YP id hL;exact .inl ⟨i,ri,q1,q2,.inr q3,q4,by omega,q6,q7⟩
   refine .inr ⟨fun i ri q1 q2 q3 q4 q5=>hL ?_,Jr id hL⟩
   have hl:∃l,G.loc (kept H0 rl i)=some l:=by
    rw[q5] at uP
    cases hl:G.loc (kept H0 rl i) with
    |none=>have :=e1.news _ l uP hl;have :=I.tU D K q2 q3 (k:=j) (by omega);omega
    |some l'=>exact⟨l',rfl⟩
   have :=I.VS i ri q2 q3 hl;exact⟨i,ri,q2,q3,this.1,this.2,by omega,q5⟩
 have hd:cS listed i=true:=by
  rcases h4 with rfl|h4
  . omega
  exact h4
 exact KV ⟨i,ri,h2,h3,hd,h5,by omega,rfl⟩ uP iO l' cF lY kA
end
end
section
theorem tG {P:Program} {g:aT} {mu:Bool} {ops:Array Oper}:∀(l:List Oper) (rl:List aN),iU P g mu ops l=some rl->
 rl.length=l.length/\∀(i:Nat) (o:Oper),l[i]?=some o->∃r,rl[i]?=some r/\FH P g mu ops o=some r
 |[],rl,h=>by obtain rfl:=Aa h;exact⟨rfl,fun i o h=>by simp at h⟩
 |o::l,rl,h=>by
  unfold iU at h;split at h
  . rename_i r rs hr qk;obtain rfl:=Aa h;obtain⟨h1,h2⟩:=tG l rs qk;refine⟨by simp[h1],fun i o' hi=>?_⟩
    cases i with
    |zero=>simp at hi;subst hi;exact⟨r,rfl,hr⟩
    |succ i=>simpa using h2 i o' (by simpa using hi)
  cases h
theorem WR.lJ {g:aT} {G:Gh} {H H':aA} {w:World} (h:WR g G H w) (hg:∀id l,G.loc id=some l->H'.get id=H.get id) (hn:H.next<=H'.next):WR g G H' w:=by
 have hl:∀{id l},G.loc id=some l->H'.live id->H.live id:=fun h1 ⟨o,h2,h3⟩=>⟨o,by rw[<-hg _ _ h1];exact h2,h3⟩
 exact {
  cells:=fun id l cs dH h1 h2=>h.cells id l cs dH h1 (by rw[<-hg _ _ h1];exact h2)
  room:=fun id l h1 h2=>h.room id l h1 (by rw[<-hg _ _ h1];exact h2)
  iN:=fun id iO l l' cF h1 h2 h3 h4=>h.iN id iO l l' cF h1 h2 (hl h1 h3) (hl h2 h4)
  gW:=fun id l h1 h2=>h.gW id l h1 (hl h1 h2)
  fQ:=fun id l o h1 h2=>h.fQ id l o h1 (by rw[<-hg _ _ h1];exact h2)
  lt:=fun id l h1=>Aw (h.lt id l h1) hn
  fU:=h.fU
  fY:=h.fY
  xA:=h.xA
  mo:=h.mo}
theorem Ext.lJ {G G':Gh} {H H' GN:aA} {w w':World} (h:Ext G H w G' H' w') (hg:∀id l,G'.loc id=some l->GN.get id=H'.get id) (hn:H'.next<=GN.next):Ext G H w G' GN w':=by
 have hl:∀{id l},G'.loc id=some l->GN.live id->H'.live id:=fun h1 ⟨o,h2,h3⟩=>⟨o,by rw[<-hg _ _ h1];exact h2,h3⟩
 exact {h with
  jK:=fun id l h1 h2=>h.jK id l h1 (hl h1 h2)
  next:=By h.next hn
  dead:=fun id l h1 h2=>h.dead id l h1 (hl (h.loc _ _ h1) h2)}
theorem WR.drawn {g:aT} {G:Gh} {H:aA} {w:World} (h:WR g G H w) (n:Nat):WR g G H {w with drawn:=n}:=by
 have hv:∀{x y},VR G w x y->VR G {w with drawn:=n} x y:=fun hx=>hx.mono (fun _ _ h=>h) (fun _ _ h=>⟨h,rfl⟩)
 exact {
  cells:=fun id l cs dH h1 h2=>let⟨a,b,c,d,e⟩:=h.cells id l cs dH h1 h2;⟨a,b,c,d,fun j hj=>let⟨u,h3,h4⟩:=e j hj;⟨u,h3,hv h4⟩⟩
  room:=fun id l h1 h2=>h.room id l h1 h2
  iN:=h.iN
  gW:=h.gW
  fQ:=fun id l o h1 h2 hk=>let⟨a,b,c⟩:=h.fQ id l o h1 h2 hk;⟨a,b,c.mono rfl fun _ _=>hv⟩
  lt:=h.lt
  fU:=h.fU
  fY:=fun k cs h1=>hv (h.fY k cs h1)
  xA:=h.xA
  mo:=h.mo}
theorem Ext.drawn (G:Gh) (H:aA) (w:World) (n:Nat) (hn:w.drawn<=n):Ext G H w G H {w with drawn:=n} where
 loc:=fun _ _ h=>h
 fB:=fun _ _ h=>⟨h,rfl⟩
 size:=Ai _
 frame:=fun _ _ _=>rfl
 jK:=fun id l h hl=>.inr ⟨id,l,h,hl,rfl⟩
 mU:=fun _ _ h=>.inl h
 next:=Ai _
 news:=fun _ _ h h'=>by rw[h] at h';cases h'
 dead:=fun _ _ _ h=>h
 mo:=rfl
 same:=uY.toB (.now (h4:=hn)) _
section
variable {P:Program} {g:aT} {mu:Bool} {ops:Array Oper} {rl:List aN} {pj:Option Nat} {pairs:List (Nat×Nat)} {anc:Nat->Nat->Bool} {s0:List AV} {H0:aA} {Hs:Nat->aA} {ss:Nat->List AV} {vs:Nat->AV}
variable {G0:Gh} {w0:World} {dl:List Deferred} {listed:Array Bool} {p:Nat} {G:Gh} {HS:aA} {w:World} {a:Act} {sS:List AV}
theorem mD.quiet (I:mD P g ops rl pairs anc s0 H0 Hs ss vs G0 w0 dl listed p G HS w a sS) (D:cM P g rl pj pairs s0 H0 Hs ss vs) (K:mH ops rl pairs anc)
 {j:Nat} {r:aN} (hj:Qv ops listed j) (hr:rl[j]?=some r) (he:r.op.mE=false) (hf:r.op.fresh=true->bF (ss j) r=false) {G':Gh} {w':World} {u:Value}
 (hw:WR g G' HS w') (e:Ext G HS w G' HS w') (hv:VR G' w' (vs j) u):
 mD P g ops rl pairs anc s0 H0 Hs ss vs G0 w0 dl (listed.setIfInBounds j true) p G' HS w' (a.put r.dst u) (jF sS r.dst (vs j)):=by
 have Tm:∀id l,G'.loc id=some l->G.loc id=some l:=fun id l hl=>by
  cases h:G.loc id with
  |none=>have h1:=e.news id l hl h;have h2:=hw.lt id l hl;omega
  |some l'=>rw[e.loc id l' h] at hl;exact hl
 refine I.next K hj hr (p':=p) (by simp[he]) hw I.tA (fun i r' h1 h2 h3=>?_) (fun id l hl=>?_) (fun i r' h1 h2 h3 h4 h5 l hl iO l' cF lY kA=>?_) (I.ext.trans e) hv (I.qW.ext e)
 . obtain⟨l,hl⟩:=h3;have :=I.VS i r' h1 h2 ⟨l,Tm _ _ hl⟩;exact⟨.inr this.1,this.2⟩
 . rcases I.cont id l (Tm _ _ hl) with ⟨i,ri,q1,q2,q3,q4⟩|h
   . exact .inl ⟨i,ri,q1,q2,.inr q3,q4⟩
   exact .inr h
 rcases h4 with rfl|h4
 . rw[hr] at h2;cases h2;rw[hf h3] at h5;cases h5
 exact I.fh i r' h1 h2 h3 h4 h5 l (Tm _ _ hl) iO l' cF (Tm _ _ lY) kA
theorem mD.fresh (I:mD P g ops rl pairs anc s0 H0 Hs ss vs G0 w0 dl listed p G HS w a sS) (D:cM P g rl pj pairs s0 H0 Hs ss vs) (K:mH ops rl pairs anc)
 {j:Nat} {r:aN} (hj:Qv ops listed j) (hr:rl[j]?=some r) (hf:r.op.fresh=true) (hwt:bF (ss j) r=true) {o:Oper} (vS:xY P g o r.op):
 ∃u w' G' ag,(execOp a.eval o).run P w=.ok (.value u) w'/\
  mD P g ops rl pairs anc s0 H0 Hs ss vs G0 w0 dl (listed.setIfInBounds j true) p G' ag w' (a.put r.dst u) (jF sS r.dst (vs j)):=by
 have he:=kV hf;have eW:=(An.1 hr).1;obtain⟨ob,val,f1,f2,f3⟩:=D.lI hr hf hwt
 have f1':tL (Arg.eval g sS) r.op=some (ob,val):=by rw[pU (ev':=Arg.eval g (ss j)) (fun y hy=>I.eval_eq K hj hr D y hy)];exact f1
 have Tw:G.loc (kept H0 rl j)=none:=by
  cases h:G.loc (kept H0 rl j) with
  |none=>rfl
  |some l=>have :=(I.VS j r hr hf ⟨l,h⟩).1;rw[hj.not] at this;cases this
 have aBe:kept H0 rl j<HS.next:=by rw[I.tA];exact I.tU D K hr hf I.ple
 obtain⟨u,w',G',fZ,M,hv⟩:=vS sS a G HS (HS.set (kept H0 rl j) ob) w ob val (kept H0 rl j) I.rel I.qW f1' Tw (fun m=>by rw[aA.aI]) (Ai _) aBe;obtain⟨l0,hblk,LG,pP⟩:=M.aNw
 have hgo:∀id l,G.loc id=some l->G'.loc id=some l:=fun id l hl=>by rw[pP id (fun hh=>by rw[hh,Tw] at hl;cases hl)];exact hl
 have mS:∀b q,G.fB b q->G'.fB b q/\w'.cell? ⟨b,q,none⟩=w.cell? ⟨b,q,none⟩:=fun b q hi=>by refine⟨M.aLo b q hi,eV (M.CL b ?_)⟩;obtain⟨v,hv⟩:=I.rel.fU b q hi;have :=rT hv;simpa using this
 have iY:∀{id},id≠kept H0 rl j->(HS.set (kept H0 rl j) ob).live id->HS.live id:=fun {id} cF ⟨x,h1,h2⟩=>⟨x,by rw[aA.aI,if_neg cF] at h1;exact h1,h2⟩;refine⟨u,w',G',HS.set (kept H0 rl j) ob,fZ,?_⟩;refine I.next K hj hr (p':=p) (by simp[he]) M.rel I.tA (fun i r' h1 h2 h3=>?_) (fun id l hl=>?_) (fun i r' h1 h2 h3 h4 h5 l hl iO l' cF lY kA=>?_) (M.ext I.ext (Gb _ _)) ?_ ?_
 . obtain⟨l,hl⟩:=h3;by_cases rP:i=j
   . subst rP;rw[hr] at h1;cases h1;exact⟨.inl rfl,hwt⟩
   rw[pP _ (lB h1 hr h2 hf rP)] at hl;have :=I.VS i r' h1 h2 ⟨l,hl⟩;exact⟨.inr this.1,this.2⟩
 . by_cases bZ:id=kept H0 rl j
   . subst bZ;by_cases Tx:p<=j
     . exact .inl ⟨j,r,hr,hf,.inl rfl,hwt,Tx,rfl,by rw[f3,aA.aI,if_pos rfl,aA.aI,if_pos rfl]⟩
     refine .inr ⟨fun i ri q1 q2 q3 q4=>lB hr q2 hf q3 (by omega),?_⟩
     have hjp:(Hs p).get (kept H0 rl j)=(Hs (j+1)).get (kept H0 rl j):=
      D.oP (p:=j+1) (q:=p) I.ple (fun e re q1 q2 q3 q4 q5=>by
       have hd:=(I.pos e re q3 q4).2 q2
       exact D.EY j e ((K.cmp j e r re (by omega) hr q3 (I.UK D K hj hd)).2.2.2.1 q4 (.inr hf)) r re hr q3 hwt q5 _ (.inr ⟨hf,rfl⟩)) (fun k rk q1 q2 q3 q4 q5=>lB hr q3 hf q4 (by omega)) p (by omega) (Ai _)
     rw[hjp,f3,aA.aI,if_pos rfl,aA.aI,if_pos rfl]
   rw[pP id bZ] at hl;have sI:(HS.set (kept H0 rl j) ob).get id=HS.get id:=(by rw[aA.aI,if_neg bZ]);rw[sI]
   rcases I.cont id l hl with ⟨i,ri,q1,q2,q3,q4⟩|h
   . exact .inl ⟨i,ri,q1,q2,.inr q3,q4⟩
   exact .inr h
 . by_cases rP:i=j
   . subst rP;rw[LG] at hl;cases hl;rw[pP iO cF] at lY;have :=I.rel.kI lY (iY cF kA);omega
   have hki:=lB (H0:=H0) h2 hr h3 hf rP
   have hd:cS listed i=true:=by
    rcases h4 with h|h
    . exact absurd h rP
    exact h
   rw[pP _ hki] at hl;by_cases bZ:iO=kept H0 rl j
   . subst bZ;rw[LG] at lY;cases lY
     have Tu:HS.live (kept H0 rl i):=by
      rcases I.cont _ l hl with ⟨i',ri',q1,q2,q3,q4,q5,q6,q7⟩|⟨q1,_⟩
      . have :i=i':=by
         refine Hz fun hn=>?_;exact lB h2 q1 h3 q2 hn q6
        subst this;obtain⟨ob',aPa,g1,_,g3⟩:=D.lI h2 h3 h5;refine⟨ob',?_,PY g1⟩;rw[q7,g3,aA.aI,if_pos rfl]
      exact absurd rfl (q1 i r' h1 h2 h3 h5)
     have :=I.rel.kI hl Tu;omega
   rw[pP _ bZ] at lY;exact I.fh i r' h1 h2 h3 hd h5 l hl iO l' cF lY (iY bZ kA)
 . rw[f2];exact hv
 exact⟨I.qW.1,fun t ht=>(I.qW.2 t ht).mono hgo mS⟩
theorem mD.done (I:mD P g ops rl pairs anc s0 H0 Hs ss vs G0 w0 dl listed p G HS w a sS) (D:cM P g rl pj pairs s0 H0 Hs ss vs) (K:mH ops rl pairs anc)
 (nQ:∀i,i<rl.length->cS listed i=true) {ds:List eX} (hd:NA G0 w0 ds dl) {Q:AQ} (hQ:Q .normal (ss rl.length) ds (Hs rl.length)):QR g G0 H0 w0 Q .normal a w:=by
 have ie:∀e re,p<=e->e<rl.length->rl[e]?=some re->re.op.mE=false:=fun e re h1 h2 h3=>by
  cases DF:re.op.mE with
  |false=>rfl
  |true=>have :=(I.pos e re h3 DF).1 (nQ e h2);omega
 have cJ:∀id l,G.loc id=some l->(Hs rl.length).get id=HS.get id:=fun id l hl=>by
  rcases I.cont id l hl with ⟨i,ri,q1,q2,q3,q4,q5,q6,q7⟩|⟨q1,q2⟩
  . have hi:=(An.1 q1).1;rw[q7]
    exact D.oP (p:=i+1) (q:=rl.length) (Ai _) (fun e re c1 c2 c3 c4 c5=>by rw[ie e re (by omega) c2 c3] at c4;cases c4)
     (fun k rk c1 c2 c3 c4 c5=>by rw[q6];exact lB q1 c3 q2 c4 (by omega)) rl.length (by omega) (Ai _)
  rw[q2]
  exact D.oP (p:=p) (q:=rl.length) (Ai _) (fun e re c1 c2 c3 c4 c5=>by rw[ie e re (by omega) c2 c3] at c4;cases c4)
   (fun k rk c1 c2 c3 c4 c5=>q1 k rk c1 c3 c4 c5) rl.length I.ple (Ai _)
 have xT:HS.next<=(Hs rl.length).next:=by rw[I.tA];exact D.sT rl.length I.ple (Ai _)
 have hs:sS=ss rl.length:=by
  have uP:=D.sM rl.length (Ai _);refine Ej fun t=>?_;by_cases ht:t<s0.length
  . have h1:=I.last t;rw[oM (S':=fun _=>true) rl.length (fun i hi=>by rw[nQ i hi]),<-D.CZ t rl.length (Ai _)] at h1;have e1:t<sS.length:=by rw[I.len];exact ht
    have e2:t<(ss rl.length).length:=(by rw[uP];exact ht);rw[Ac e1,Ac e2];simpa [getD_eq,Ac e1,Ac e2] using h1
  rw[Bp (by rw[I.len];omega),Bp (by rw[uP];omega)]
 refine⟨.normal,ss rl.length,ds,Hs rl.length,G,hQ,I.rel.lJ cJ xT,I.ext.lJ cJ xT,?_,?_,trivial⟩
 . rw[<-hs];exact I.qW
 rw[I.dfr];exact hd.ext I.ext
theorem ES {i:Nat} (hs:listed.size=ops.size):i∈Region.ready .any ops listed↔Qv ops listed i:=by
 have cJ:∀k,k<ops.size->listed.getD k true=cS listed k:=fun k hk=>by unfold cS;simp[Ba,hs,hk]
 unfold Region.ready;simp only[Dn,Bn,Aj,Cr];constructor
 . rintro⟨h1,h2,h3⟩;refine⟨h1,by rw[<-cJ i h1];exact h2,fun o ho e he hb=>?_⟩;rw[ho] at h3;simp only[Bi,Bb] at h3
   have h4:(!Region.binds .any e||listed.getD e.on false)=true:=by rw[Array.all_eq_true_iff_forall_mem] at h3;exact h3 e he
   rw[hb] at h4;simpa [cS] using h4
 rintro⟨h1,h2,h3⟩;refine⟨h1,by rw[cJ i h1];exact h2,?_⟩
 obtain⟨o,ho⟩:∃o,ops[i]?=some o:=⟨ops[i],by simp[h1]⟩
 rw[ho];simp only[Bi,Bb];rw[Array.all_eq_true_iff_forall_mem];intro e he
 cases hb:Region.binds .any e with
 |false=>rfl
 |true=>have :=h3 o ho e he hb;simpa [cS] using this
theorem KO (hs:listed.size=ops.size) (K:mH ops rl pairs anc) (h:Region.ready .any ops listed=[]):∀i,i<ops.size->cS listed i=true:=by
 intro i
 induction i using Nat.strongRecOn with
 |_ i ih=>
  intro hi
  cases hd:cS listed i with
  |true=>rfl
  |false=>
   have :i∈Region.ready .any ops listed:=(ES hs).2 ⟨hi,hd,fun o ho e he hb=>by
    have h1:=K.oe i o ho e he hb
    exact ih e.on h1 (by omega)⟩
   rw[h] at this;cases this
def todo (listed:Array Bool) (n:Nat):Nat:=(List.range n).countP fun i=> !cS listed i
theorem AY {p q:Nat->Bool}:∀(l:List Nat) (j:Nat),j∈l->(∀i∈l,q i=true->p i=true)->p j=true->q j=false->l.countP q<l.countP p
 |[],j,h,_,_,_=>by cases h
 |x::l,j,h,hpq,hp,hq=>by
  have hle:l.countP q<=l.countP p:=List.countP_mono_left fun i hi=>hpq i (Ao _ hi);rw[Fl,Fl]
  rcases Ah.1 h with rfl|h
  . simp only[hp,hq,if_true];simp;omega
  have :=AY l j h (fun i hi=>hpq i (Ao _ hi)) hp hq
  have h2:(if q x=true then 1 else 0)<=(if p x=true then 1 else 0):=by
   by_cases hqx:q x=true
   . simp[hqx,hpq x Aq hqx]
   simp[hqx]
  omega
theorem Zl {j n:Nat} (hj:cS listed j=false) (eW:j<n) (hs:listed.size=n):todo (listed.setIfInBounds j true) n<todo listed n:=by
 have sK:∀i,cS (listed.setIfInBounds j true) i=if i=j then true else cS listed i:=fun i=>by
  unfold cS;rw[Ba,Ba,En];by_cases h:j=i
  . subst h;simp[hs,eW]
  rw[if_neg h,if_neg (Ne.symm h)]
 refine AY _ j (Bn.2 eW) (fun i _ h=>?_) (by simp[hj]) (by simp[sK]);rw[sK] at h;by_cases rP:i=j
 . rw[rP,hj];rfl
 rw[if_neg rP] at h;exact h
theorem Ext.pre {G G':Gh} {H H1 H':aA} {w w':World} (h:Ext G H1 w G' H' w') (hl:∀id l,G.loc id=some l->H1.live id->H.live id) (hn:H.next<=H1.next):Ext G H w G' H' w':=
 {h with
  frame:=fun b hb hf=>h.frame b hb fun id l q1 q2=>hf id l q1 (hl id l q1 q2)
  jK:=fun id l q1 q2=>(h.jK id l q1 q2).imp (fun x=>x) fun⟨a,b,c,d,e⟩=>⟨a,b,c,hl _ _ c d,e⟩
  mU:=fun b o q=>(h.mU b o q).imp (fun x=>x) fun q=>q.imp (fun x=>x) fun⟨a,b,c,d,e⟩=>⟨a,b,c,hl _ _ c d,e⟩
  next:=By hn h.next
  news:=fun id l q1 q2=>By hn (h.news id l q1 q2)
  dead:=fun id l q1 q2=>hl _ _ q1 (h.dead id l q1 q2)}
theorem zU {S:Nat->Bool} {t:Nat} (ht:∀(i:Nat) (q:aN),rl[i]?=some q->q.dst≠some t):∀m,qJ S rl s0 vs t m=s0.getD t aC
 |0=>rfl
 |m+1=>by
  have hw:writes rl s0 t m=false:=by
   unfold writes;split
   . rename_i q hq;have :=ht m q hq;simp[this]
   rfl
  simp only[qJ,hw,Ja,Ay,Bu];exact zU ht m
theorem cM.Qh (D:cM P g rl pj pairs s0 H0 Hs ss vs) {t:Nat} (ht:∀(i:Nat) (q:aN),rl[i]?=some q->q.dst≠some t) {j:Nat} (hj:j<=rl.length):(ss j).getD t aC=s0.getD t aC:=by rw[D.CZ t j hj,zU ht]
def np (P:Program) (g:aT) (rl:List aN) (anc:Nat->Nat->Bool) (Hs:Nat->aA) (ss:Nat->List AV) (E:AV->List AV->aA->Prop) (j:Nat):Prop:=
 (∀k,k<rl.length->k<j->anc k j=true)/\
 ∃r f azs p x H1,rl[j]?=some r/\r.op=.call f azs/\bF (ss j) r=true/\iG (f.eval g (ss j))=some p/\
  Sound P g p.1 (p.2.1++azs.map (Arg.eval g (ss j))++p.2.2) (Hs j) (.pA x) H1/\∀s',s'.length=(ss j).length->(∀t,(∀(i:Nat) (q:aN),rl[i]?=some q->q.dst≠some t)->s'.getD t aC=(ss j).getD t aC)->((∀k,k<rl.length->j<k->anc j k=true)->s'=ss j)->E x s' H1
theorem mD.ZY (I:mD P g ops rl pairs anc s0 H0 Hs ss vs G0 w0 dl listed p G HS w a sS) (D:cM P g rl pj pairs s0 H0 Hs ss vs) (K:mH ops rl pairs anc)
 {j:Nat} (hj:Qv ops listed j) (eW:j<rl.length) (hc:∀k,k<rl.length->(k<j->anc k j=true)/\(j<k->anc j k=true)):sS=ss j:=by
 have h1:∀k,k<j->cS listed k=true:=fun k hk=>I.rS K hj ((hc k (by omega)).1 hk)
 have h2:∀k,j<=k->k<rl.length->cS listed k=false:=fun k hk Pc=>by
  by_cases he:k=j
  . rw[he];exact hj.not
  cases hd:cS listed k with
  |false=>rfl
  |true=>have :=I.closed j k hd ((hc k Pc).2 (by omega));rw[hj.not] at this;cases this
 have uP:=D.sM j (by omega);refine Ej fun t=>?_;by_cases ht:t<s0.length
 . have h3:=I.last t;rw[tV (k:=j) rl.length (by omega) (fun i q1 q2=>by rw[h2 i q1 q2];rfl),oM (S':=fun _=>true) j (fun i hi=>by rw[h1 i hi]),<-D.CZ t j (by omega)] at h3;have e1:t<sS.length:=by rw[I.len];exact ht
   have e2:t<(ss j).length:=(by rw[uP];exact ht);rw[Ac e1,Ac e2];simpa [getD_eq,Ac e1,Ac e2] using h3
 rw[Bp (by rw[I.len];omega),Bp (by rw[uP];omega)]
theorem Rl {ro:Option Nat} {rl0:List aN} (hc:iU P g mu ops ops.toList=some rl0) (LG:rl0.length=rl.length) (LH:∀i r,rl0[i]?=some r->(∀j,pj=some j->anc j i=false)->rl[i]?=some r) (D:cM P g rl pj pairs s0 H0 Hs ss vs) (K:mH ops rl pairs anc) (zN:∀id l,G0.loc id=some l->id<H0.next)
 {ds:List eX} (hd:NA G0 w0 ds dl) {Q:AQ} (hQ:pj=none->Q .normal (ss rl.length) ds (Hs rl.length)) (hP:∀j,pj=some j->np P g rl anc Hs ss (fun x s H=>Q (.panic x) s ds H) j):
 ∀(fuel:Nat) (listed:Array Bool) (p:Nat) (G:Gh) (HS:aA) (w:World) (a:Act) (sS:List AV),todo listed rl.length<=fuel->
  mD P g ops rl pairs anc s0 H0 Hs ss vs G0 w0 dl listed p G HS w a sS->(∀k,pj=some k->cS listed k=false)->wpAnyIn (Fw ro) 0 P .any ops (QR g G0 H0 w0 Q) fuel listed a w:=by
 obtain⟨hlen,cJ⟩:=tG _ _ hc;have jE:rl.length=ops.size:=by rw[<-LG];simpa using hlen
 have hnn:∀{listed:Array Bool},(∀i,i<rl.length->cS listed i=true)->(∀k,pj=some k->cS listed k=false)->pj=none:=fun {listed} h1 h2=>by
  cases Tx:pj with
  |none=>rfl
  |some k=>obtain⟨_,r,_,_,_,_,_,e1,_⟩:=hP k Tx;have :=h1 k (An.1 e1).1;rw[h2 k Tx] at this;cases this
 intro fuel
 induction fuel with
 |zero=>
  intro listed p G HS w a sS ht I hnp
  have nQ:∀i,i<rl.length->cS listed i=true:=fun i hi=>by have h0:todo listed rl.length=0:=(by omega);unfold todo at h0;rw[List.countP_eq_zero] at h0;have :=h0 i (Bn.2 hi);simpa using this
  refine⟨?_,I.done D K nQ hd (hQ (hnn nQ hnp))⟩;refine Hb.2 fun i hi=>?_;have :=(ES (by rw[I.size,jE])).1 hi;have h2:=nQ i (by rw[jE];exact this.lt);rw[this.not] at h2;cases h2
 |succ fuel ih=>
  intro listed p G HS w a sS ht I hnp;have Pm:listed.size=ops.size:=by rw[I.size,jE]
  refine⟨fun hn=>I.done D K (fun i hi=>KO Pm K hn i (by omega)) hd (hQ (hnn (fun i hi=>KO Pm K hn i (by omega)) hnp)),fun j hjr=>?_⟩;have hj:=(ES Pm).1 hjr
  obtain⟨o,ho⟩:∃o,ops[j]?=some o:=⟨ops[j]'hj.lt,by simp[hj.lt]⟩
  obtain⟨r,hr',hco⟩:=cJ j o (by simpa using ho)
  have hr:rl[j]?=some r:=LH j r hr' fun k hk=>by
   cases hd:anc k j with
   |false=>rfl
   |true=>have :=I.rS K hj hd;rw[hnp k hk] at this;cases this
  obtain⟨uO,qG,_⟩:=yT hco;have RA:j<rl.length:=by rw[jE];exact hj.lt
  have MQ:todo (listed.setIfInBounds j true) rl.length<=fuel:=by have :=Zl (n:=rl.length) hj.not RA I.size;omega
  have ig:pj≠some j->∀k,pj=some k->cS (listed.setIfInBounds j true) k=false:=fun cF k hk=>by rw[Lu I K (by rw[I.size];exact RA),if_neg (fun he=>cF (by rw[hk,he]))];exact hnp k hk
  have yD:pj=some j->(∃f azs,r.op=.call f azs)/\bF (ss j) r=true:=fun h=>by obtain⟨_,r',f,azs,_,_,_,e1,e2,e3,_⟩:=hP j h;rw[hr] at e1;cases e1;exact⟨⟨f,azs,e2⟩,e3⟩
  have UB:=Kw hco I.qW;rw[I.Wi K hj hr D] at UB;have eP:=(D.step j r hr).1;unfold wpOpIn;simp only[ho];rw[UB];unfold DStep at eP;by_cases La:bF (ss j) r=true
  . rw[if_pos La] at eP ⊢;by_cases hf:r.op.fresh=true
    . obtain⟨u,w',G',ag,fZ,I'⟩:=I.fresh D K hj hr hf La (eg qG hf);refine⟨fun _ _=>trivial,?_⟩;rw[show o.semAt (Fw ro).round a.eval=execOp a.eval o from Oper.semAt_eq _ _ _ (tF qG fun f azs e=>by rw[e] at hf;cases hf),fZ];rw[uO] at I'
      exact ih _ _ _ _ _ _ _ MQ I' (ig fun h=>by
       obtain⟨⟨f,azs,e⟩,_⟩:=yD h;rw[e] at hf
       cases hf)
    rw[if_neg hf] at eP;have pd:r.op.fresh=false:=(by simpa using hf);split at eP
    . rename_i f azs eK;have he:r.op.mE=true:=(by rw[eK];rfl);have hev:=I.eval_eq K hj hr D;rw[eK] at qG hev;obtain⟨c,f0,e1,e2,e3,e4⟩:=PG qG;have hfe:f.eval g sS=f.eval g (ss j):=hev f (by simp[cZ.args]);have hae:azs.map (Arg.eval g sS)=azs.map (Arg.eval g (ss j)):=Er fun y hy=>hev y (by simp[cZ.args,hy]);by_cases ik:pj=some j
      . obtain⟨hcc,r',f',VB,q,x,H1,b1,b2,b3,b4,hS,hq⟩:=hP j ik;rw[hr] at b1;cases b1;rw[eK] at b2;cases b2;refine OP e1 e2 e3 e4 (I.Nz D K hj hr he) I.qW (by rw[hfe,hae];exact .inl ⟨q,b4,hS⟩) (fun v hv=>by cases hv) (fun v hv u w' G' jG DF GR=>?_);cases hv;have hs:(∀k,k<rl.length->j<k->anc j k=true)->sS=ss j:=fun h=>I.ZY D K hj RA fun k hk=>⟨hcc k hk,h k hk⟩;have hq:=hq sS (by rw[I.len,D.sM j (by omega)]) (fun t ht=>by rw[I.last t,zU ht,D.Qh ht (by omega)]) hs
        have ex:=I.ext.trans (DF.pre (fun id l h1 h2=>by
         rcases I.RW D K hj hr he id l h1 with ⟨_,_,_,_,_,_,_,_,_,hn⟩|⟨_,h⟩
         . obtain⟨o,ho,_⟩:=h2;rw[hn] at ho;cases ho
         obtain⟨o,ho,hv⟩:=h2;exact⟨o,h.trans ho,hv⟩) (by rw[I.tA];exact D.sT j (I.KN K hj hr he).1 (by omega)))
        exact⟨.panic x,sS,ds,H1,G',hq,jG,ex,I.qW.ext DF,by rw[I.dfr];exact hd.ext ex,u,rfl,GR⟩
      rw[if_neg (by simpa using ik)] at eP;obtain⟨q,hq,hS⟩:=eP;refine OP e1 e2 e3 e4 (I.Nz D K hj hr he) I.qW (by rw[hfe,hae];exact .inl ⟨q,hq,hS⟩) (fun v hv u w' G' jG DF GR=>?_) (fun v hv=>by cases hv);cases hv;obtain⟨Ut,I'⟩:=I.DQ D K zN hj hr he jG DF GR;rw[uO] at I';exact ih _ _ _ _ _ _ _ MQ I' (ig ik)
    . exact eP.elim
    . exact eP.elim
    rename_i n1 n2 n3;have cF:=ig fun h=>by obtain⟨⟨f,azs,e⟩,_⟩:=yD h;exact n1 f azs e
    have BS:r.op.plain=true:=by cases Js:r.op<;>first|rfl|exact absurd Js (n1 _ _)|exact absurd Js (n2 _)|exact absurd Js (n3 _ _)|(rw[Js] at eP;cases eP)
    have aEh:cD (Arg.eval g sS) (Hs j) r.op=some (vs j,Hs (j+1)):=by rw[VA (Hs j) (ev':=Arg.eval g (ss j)) (fun y hy=>I.eval_eq K hj hr D y hy)];exact eP
    by_cases he:r.op.mE=true
    . refine Kx (Rg qG BS) (tF qG n3) (I.Nz D K hj hr he) I.qW aEh (fun u w' G' jG DF GR=>?_);obtain⟨Ut,I'⟩:=I.DQ D K zN hj hr he jG DF GR;rw[uO] at I';exact ih _ _ _ _ _ _ _ MQ I' cF
    have sG:r.op.mE=false:=by simpa using he
    have hq:=DR (H1:=HS) sG pd aEh (fun id bZ=>by
     have zM:r.op.cG (Arg.eval g (ss j))=some id:=by rw[<-Lb (ev:=Arg.eval g sS) (fun y hy=>I.eval_eq K hj hr D y hy)];exact bZ
     obtain⟨y,hy,qt⟩:=QX bZ
     have pP:∃l,G.loc id=some l:=by
      cases y with
      |tmp t=>exact YW qt (I.qW.getD t)
      |const v=>have :=K.lits j r hr (iS bZ) v hy;rw[Arg.eval,this] at qt;cases qt
      |fY n=>simp only[Arg.eval] at qt;split at qt<;>cases qt
     obtain⟨l,hl⟩:=pP
     exact I.WJ D K hj hr La zM hl (IY eP zM))
    refine Kx (Rg qG BS) (tF qG n3) I.rel I.qW hq.2 (fun u w' G' jG DF GR=>?_);have I':=I.quiet D K hj hr sG (fun h=>by rw[pd] at h;cases h) jG DF GR;rw[uO] at I';exact ih _ _ _ _ _ _ _ MQ I' cF
  rw[if_neg La] at eP ⊢;refine⟨fun _ _=>trivial,?_⟩;obtain⟨hv,hH⟩:=eP;have cF:=ig fun h=>absurd (yD h).2 La;have aLl:bF (ss j) r=false:=by simpa using La
  by_cases he:r.op.mE=true
  . have aBb:=I.Nz D K hj hr he;obtain⟨Ut,I'⟩:=I.DQ D K zN hj hr he (G1:=G) (w1:=w) (u:=undef) (by rw[hH];exact aBb) (by rw[hH];exact Ext.refl G (Hs j) w) (by rw[hv];exact VR.kN G w);rw[uO] at I';exact ih _ _ _ _ _ _ _ MQ I' cF
  have I':=I.quiet D K hj hr (by simpa using he) (fun _=>aLl) (u:=undef) I.rel (Ext.refl G HS w) (by rw[hv];exact VR.kN G w);rw[uO] at I';exact ih _ _ _ _ _ _ _ MQ I' cF
theorem yV {ro:Option Nat} {id:Nat} {rl0:List aN} (hm:P.follows .mixedOrders=true) (hc:iU P g mu ops ops.toList=some rl0) (LG:rl0.length=rl.length) (LH:∀i r,rl0[i]?=some r->(∀j,pj=some j->anc j i=false)->rl[i]?=some r) (D:cM P g rl pj pairs s0 H0 Hs ss vs) (K:mH ops rl pairs anc)
 (hw:WR g G0 H0 w0) (hs:SR G0 w0 s0 a) {ds:List eX} (hd:NA G0 w0 ds a.defers) {Q:AQ} (hQ:pj=none->Q .normal (ss rl.length) ds (Hs rl.length)) (hP:∀j,pj=some j->np P g rl anc Hs ss (fun x s H=>Q (.panic x) s ds H) j):
 (Code.region id ops true).wpIn (Fw ro) 0 P (QR g G0 H0 w0 Q) a w0:=by
 refine wpIn_region_any hm ?_;obtain⟨hlen,cJ⟩:=tG _ _ hc;have jE:rl.length=ops.size:=by rw[<-LG];simpa using hlen
 have hH:∀id,(Hs 0).get id=H0.get id:=fun id=>by rw[D.h0];rfl
 have hN:H0.next<=(Hs 0).next:=by rw[D.h0];exact Gb _ _
 have Jm:∀i,cS (Array.replicate ops.size false) i=false:=fun i=>by unfold cS;rw[Ba,Array.getElem?_replicate];split<;>rfl
 have pr:∀i r,rl[i]?=some r->∀l,G0.loc (kept H0 rl i)=some l->False:=fun i r hr l hl=>by have :=hw.lt _ _ hl;unfold kept at this;omega
 have oU:NA G0 w0 ds a.defers:=hd;refine Rl (pairs:=pairs) (anc:=anc) (G0:=G0) (w0:=w0) (dl:=a.defers) hc LG LH D K hw.lt hd hQ hP ops.size (Array.replicate ops.size false) 0 G0 (Hs 0) {w0 with drawn:=w0.drawn+1} a s0 ?_ ?_ fun k _=>Jm k
 . unfold todo;refine By List.countP_le_length ?_;simp[jE]
 exact {
  size:=by simp[jE]
  closed:=fun i j h=>by rw[Jm] at h;cases h
  ple:=Cs _
  pos:=fun i r h1 h2=>by rw[Jm];simp
  rel:=(hw.drawn _).lJ (fun id l _=>hH id) hN
  tA:=rfl
  VS:=fun i r h1 h2 ⟨l,h3⟩=>(pr i r h1 l h3).elim
  cont:=fun id l hl=>.inr ⟨fun i r h1 h2 h3 h4 he=>by rw[he] at hl;exact pr i r h2 l hl,rfl⟩
  fh:=fun i r h1 h2 h3 h4=>by rw[Jm] at h4;cases h4
  ext:=(Ext.drawn G0 H0 w0 _ (Gb _ _)).lJ (fun id l _=>hH id) hN
  qW:=hs.ext (Ext.drawn G0 H0 w0 _ (Gb _ _))
  last:=fun t=>by
   have :∀m,qJ (cS (Array.replicate ops.size false)) rl s0 vs t m=s0.getD t aC:=fun m=>by
    induction m with
    |zero=>rfl
    |succ m ih=>simp only[qJ,Jm,Bool.false_and,Ay,Bu,ih]
   rw[this]
  len:=rfl
  dfr:=rfl}
end
end
end Go.Av
