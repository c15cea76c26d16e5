/-
  Parts of the proof of statement 4: AvFit, AvLoop, NumA, GeoA
-/
import Derived.Test.YtjiignefffdelaaGreatDoorA18
set_option linter.unusedVariables false
set_option linter.unusedSimpArgs false
set_option linter.unusedSectionVars false
namespace Go.Av
open Go
section
section
variable {P:Program} {v:Nat→Option (List AV)} {l l':LKey→Loop→Prop}
theorem cQ:argOf ⟨v,l⟩=argOf ⟨v,l'⟩:=by
 funext x;cases x<;>rfl
theorem tM:argsOf ⟨v,l⟩=argsOf ⟨v,l'⟩:=by
 funext x
 induction x with
 |nil=>rfl
 |cons a r ih=>simp only[argsOf];rw[ih,cQ (l':=l')]
theorem aFw:optArg ⟨v,l⟩=optArg ⟨v,l'⟩:=by
 funext x
 cases x with
 |none=>rfl
 |some a=>simp only[optArg];rw[cQ (l':=l')]
theorem aFy (f:Nat→Option (Nat×Nat)):partsP ⟨v,l⟩ f=partsP ⟨v,l'⟩ f:=by
 funext x
 induction x with
 |nil=>rfl
 |cons a r ih=>simp only[partsP];rw[ih,cQ (l':=l')]
theorem aOj:∀(n:Nat) (x),litP ⟨v,l⟩ n x=litP ⟨v,l'⟩ n x:=by
 intro n x
 induction x generalizing n with
 |nil=>rfl
 |cons a r ih=>simp only[litP];rw[ih,cQ (l':=l')]
theorem aEp (op:BinOp) (t:TypeId) (x y:Operand):copBin P ⟨v,l⟩ op t x y=copBin P ⟨v,l'⟩ op t x y:=by
 unfold copBin;rw[cQ (l':=l')]
theorem aBn (a b:TypeId) (x:Operand):copConv P ⟨v,l⟩ a b x=copConv P ⟨v,l'⟩ a b x:=by
 unfold copConv;rw[cQ (l':=l')]
theorem zF (t:TypeId) (x:Operand) (a b c:Option Operand):copSlice P ⟨v,l⟩ t x a b c=copSlice P ⟨v,l'⟩ t x a b c:=by
 unfold copSlice;rw[cQ (l':=l'),aFw (l':=l')]
theorem aEr (c:Call):copLen P ⟨v,l⟩ c=copLen P ⟨v,l'⟩ c:=by
 unfold copLen;rw[cQ (l':=l')]
theorem wH (mu:Bool) (c:Call):copAppend P ⟨v,l⟩ mu c=copAppend P ⟨v,l'⟩ mu c:=by
 unfold copAppend;rw[cQ (l':=l')]
theorem aBm (mu:Bool) (c:Call):copCall P ⟨v,l⟩ mu c=copCall P ⟨v,l'⟩ mu c:=by
 unfold copCall;rw[cQ (l':=l'),tM (l':=l'),aEr (l':=l'),wH (l':=l')]
theorem aRc (mu:Bool) (o:Oper):cop P ⟨v,l⟩ mu o=cop P ⟨v,l'⟩ mu o:=by
 unfold cop;simp only[cQ (v:=v) (l:=l) (l':=l'),tM (v:=v) (l:=l) (l':=l'),aFy (v:=v) (l:=l) (l':=l'),aOj (v:=v) (l:=l) (l':=l'),aEp (v:=v) (l:=l) (l':=l'),aBn (v:=v) (l:=l) (l':=l'),zF (v:=v) (l:=l) (l':=l'),aBm (v:=v) (l:=l) (l':=l')]
theorem aKh (mu:Bool) (ops:Array Oper) (o:Oper):coper P ⟨v,l⟩ mu ops o=coper P ⟨v,l'⟩ mu ops o:=by
 unfold coper;rw[aRc (l':=l')]
theorem aEt (mu:Bool) (ops:Array Oper):∀x,copers P ⟨v,l⟩ mu ops x=copers P ⟨v,l'⟩ mu ops x:=by
 intro x
 induction x with
 |nil=>rfl
 |cons a r ih=>simp only[copers];rw[ih,aKh (l':=l')]
theorem aJp (mu:Bool) (c:Code):acode P ⟨v,l⟩ mu c=acode P ⟨v,l'⟩ mu c:=by
 induction c with
 |region id ops d=>cases d<;>simp only[acode]<;>rw[aEt (l':=l')]
 |seq a b iha ihb=>simp only[acode,iha,ihb]
 |cond c a b iha ihb=>simp only[acode,iha,ihb];rw[cQ (l':=l')]
 |block id a ih=>simp only[acode,ih]
 |loop a ih=>simp only[acode,ih]
 |scope a ih=>simp only[acode,ih]
 |rangeFunc c ps x y ihx ihy=>simp only[acode,ihx,ihy];rw[cQ (l':=l')]
 |_=>rfl
def mkG (P:Program) (v:Nat→Option (List AV)):Genv:=
 ⟨v,fun k r=>r.params.toList=k.ps∧∃mu,acode P ⟨v,fun _ _=>False⟩ mu r.assign=some k.asg∧acode P ⟨v,fun _ _=>False⟩ mu r.body=some k.body∧k.asg.nd=true∧k.body.nd=true⟩
theorem aId (hm:P.follows .mixedOrders=true):Fit P (mkG P v) where
 mixed:=hm
 lok:=fun k r=>by
  unfold mkG;simp only[aJp (P:=P) (v:=v) (l':=fun _ _=>False)]
def mkF (P:Program) (g:Genv) (mu:Bool) (fn:Go.Func):Option AFn:=
 match fn.body with
 |none=>none
 |some c=>match acode P g mu c,aressOf P fn.results.toList with
  |some b,some r=>some ⟨fn.ntmps,r,b⟩
  |_,_=>none
def acodeX (P:Program) (g:Genv) (mu:Bool):Code→Option ACode
 |.skip=>some .skip
 |.label _=>some .skip
 |.region _ ops false=>(copers P g mu ops ops.toList).map .ops
 |.region _ ops true=>(copers P g mu ops ops.toList).map fun rl=>.draw rl (pairsOf rl (Region.before ops).toList)
 |.seq a b=>match acodeX P g mu a,acodeX P g mu b with
  |some x,some y=>some (.seq x y)
  |_,_=>none
 |.cond c a b=>match argOf g c,acodeX P g mu a,acodeX P g mu b with
  |some z,some x,some y=>some (.cond z x y)
  |_,_,_=>none
 |.block id a=>(acodeX P g mu a).map (.block id)
 |.loop a=>(acodeX P g mu a).map .loop
 |.scope a=>acodeX P g mu a
 |.exit id=>some (.exit id)
 |.ret=>some .ret
 |.rangeFunc c ps x y=>match argOf g c,acodeX P g mu x,acodeX P g mu y with
  |some c',some x',some y'=>some (.rangeF c' ps.toList x' y')
  |_,_,_=>none
 |_=>none
theorem aJo {P:Program} {g:Genv} {mu:Bool}:∀{c:Code} {b:ACode},acode P g mu c=some b→acodeX P g mu c=some b:=by
 intro c
 induction c with
 |region k ops d=>
  intro b h
  cases d with
  |false=>exact h
  |true=>
   simp only[acode] at h;simp only[acodeX];split at h
   · rename_i rl hrl
     split at h
     · cases h;rw[hrl];rfl
     · cases h
   · cases h
 |seq a b iha ihb=>
  intro r h;simp only[acode] at h;split at h
  · rename_i x y hx hy
    simp only[acodeX,iha hx,ihb hy];exact h
  · cases h
 |cond c a b iha ihb=>
  intro r h;simp only[acode] at h;split at h
  · rename_i z x y hz hx hy
    simp only[acodeX,hz,iha hx,ihb hy];exact h
  · cases h
 |block i a iha=>
  intro r h;simp only[acode,Option.map_eq_some_iff] at h;obtain⟨x,hx,rfl⟩:=h;simp only[acodeX,iha hx,Option.map_some]
 |loop a iha=>
  intro r h;simp only[acode,Option.map_eq_some_iff] at h;obtain⟨x,hx,rfl⟩:=h;simp only[acodeX,iha hx,Option.map_some]
 |scope a iha=>
  intro r h;simp only[acode] at h;simp only[acodeX];exact iha h
 |rangeFunc c ps x y ihx ihy=>
  intro r h;simp only[acode] at h;split at h
  · rename_i c' x' y' hc hx hy
    split at h
    · simp only[acodeX,hc,ihx hx,ihy hy];exact h
    · cases h
  · cases h
 |_=>intro r h;first|exact h|cases h
def mkX (P:Program) (g:Genv) (mu:Bool) (fn:Go.Func):Option AFn:=
 match fn.body with
 |none=>none
 |some c=>match acodeX P g mu c,aressOf P fn.results.toList with
  |some b,some r=>some ⟨fn.ntmps,r,b⟩
  |_,_=>none
theorem aF {P:Program} {g:Genv} {mu:Bool} {fn:Go.Func} {F:AFn} (h:(mkF P g mu fn).isSome=true) (hx:mkX P g mu fn=some F):mkF P g mu fn=some F:=by
 cases hm:mkF P g mu fn with
 |none=>rw[hm] at h;cases h
 |some G=>
  have e:mkX P g mu fn=some G:=by
   unfold mkF at hm;unfold mkX
   cases hc:fn.body with
   |none=>rw[hc] at hm;cases hm
   |some c=>
    rw[hc] at hm;simp only at hm ⊢;split at hm
    · rename_i b r hb hr
      rw[aJo hb,hr];exact hm
    · cases hm
  rw[e] at hx;exact hx
def sqO:Option ACode→Option ACode→Option ACode
 |some x,some y=>some (.seq x y)
 |_,_=>none
def cdO (c:Option Arg):Option ACode→Option ACode→Option ACode
 |some x,some y=>match c with
  |some z=>some (.cond z x y)
  |none=>none
 |_,_=>none
theorem ax (P:Program) (g:Genv) (mu:Bool):(∀a b,acodeX P g mu (.seq a b)=sqO (acodeX P g mu a) (acodeX P g mu b))∧(∀c a b,acodeX P g mu (.cond c a b)=cdO (argOf g c) (acodeX P g mu a) (acodeX P g mu b))∧
 (∀i a,acodeX P g mu (.block i a)=(acodeX P g mu a).map (.block i))∧(∀a,acodeX P g mu (.loop a)=(acodeX P g mu a).map .loop)∧(∀a,acodeX P g mu (.scope a)=acodeX P g mu a)∧
 (∀k ops,acodeX P g mu (.region k ops false)=(copers P g mu ops ops.toList).map .ops)∧(∀k ops,acodeX P g mu (.region k ops true)=(copers P g mu ops ops.toList).map fun rl=>.draw rl (pairsOf rl (Region.before ops).toList)):=by
 refine⟨fun a b=>?_,fun c a b=>?_,fun i a=>rfl,fun a=>rfl,fun a=>rfl,fun k ops=>rfl,fun k ops=>rfl⟩
 · conv=>lhs;unfold acodeX
   unfold sqO;cases acodeX P g mu a<;>cases acodeX P g mu b<;>rfl
 · conv=>lhs;unfold acodeX
   unfold cdO;cases argOf g c<;>cases acodeX P g mu a<;>cases acodeX P g mu b<;>rfl
theorem bQ {g:Genv} {mu:Bool} {f:FuncId} {fn:Go.Func} {F:AFn} (h1:P.funcs[f]?=some fn) (h2:(fn.name== "runtime.NumGoroutine")=false) (h:mkF P g mu fn=some F):FnIs P g mu f F:=by
 unfold mkF at h;split at h
 · cases h
 · rename_i c hc
   split at h
   · rename_i b r hb hr
     cases h;exact⟨fn,c,h1,hc,h2,hb,rfl,hr⟩
   · cases h
end
end
section
def ROper.nodef (o:ROper):Bool:=match o.op with|.deferc _ _=>false|_=>true
def ACode.nodef:ACode→Bool
 |.ops rl=>rl.all ROper.nodef
 |.seq a b|.cond _ a b=>a.nodef&&b.nodef
 |.block _ a|.loop a=>a.nodef
 |.rangeF _ _ _ _=>false
 |_=>true
def ACode.wr:ACode→List Nat
 |.ops rl|.draw rl _=>rl.filterMap (·.dst)
 |.seq a b|.cond _ a b=>a.wr++b.wr
 |.block _ a|.loop a=>a.wr
 |_=>[]
def memN (t:Nat):List Nat→Bool
 |[]=>false
 |x::l=>Nat.beq t x||memN t l
theorem aCp {t:Nat}:∀{l:List Nat},memN t l=true↔t∈l
 |[]=>by simp[memN]
 |x::l=>by simp[memN,aCp]
theorem gY {t:Nat} {l:List Nat}:memN t l=false↔t∉l:=by
 rw[←aCp];simp
def Keep (W:List Nat) (f0 f:Slt):Prop:=∀t,memN t W=false→f t=f0 t
theorem Keep.aPl {W:List Nat} {f:Slt}:Keep W f f:=fun _ _=>rfl
def Kp (W:List Nat) (f0:Slt) (nd:Bool) (ds0:List Dfr) (f:Slt) (ds:List Dfr):Prop:=Keep W f0 f∧(nd=true→ds=ds0)
theorem Keep.put {W:List Nat} {f0 f:Slt} {n:Nat} (h:Keep W f0 f) (dst:Option Nat) (hd:∀d,dst=some d→d∈W) (v:AV):Keep W f0 (putF n f dst v):=by
 cases dst with
 |none=>exact h
 |some d=>
  intro t ht
  have hne:t≠d:=fun e=>by
   subst e;exact gY.1 ht (hd _ rfl)
  simp only[putF];split
  · rw[eT _ _ hne];exact h t ht
  · exact h t ht
section
variable {P:Program} {g:Genv} {n:Nat} {W:List Nat} {f0:Slt} {nd:Bool} {ds0:List Dfr}
theorem aJk {rl:List ROper}:∀{f:Slt} {ds:List Dfr} {H:Heap} {Q:FQ},(∀o∈rl,∀d,o.dst=some d→d∈W)→(nd=true→rl.all ROper.nodef=true)→Kp W f0 nd ds0 f ds→
 FOps P g n rl f ds H Q→FOps P g n rl f ds H (fun e f' ds' H'=>Kp W f0 nd ds0 f' ds'∧Q e f' ds' H'):=by
 induction rl with
 |nil=>exact fun _ _ hk h=>⟨hk,h⟩
 |cons o r ih=>
  intro f ds H Q hw hn hk h;have hw':=fun o ho=>hw o (List.mem_cons_of_mem _ ho)
  have hn':nd=true→r.all ROper.nodef=true:=fun e=>by
   have :=hn e;simp only[List.all_cons,Bool.and_eq_true] at this;exact this.2
  have hput:∀v,Kp W f0 nd ds0 (putF n f o.dst v) ds:=fun v=>⟨hk.1.put _ (hw o List.mem_cons_self) v,hk.2⟩;unfold FOps at h ⊢;split
  · rename_i hwa
    rw[if_pos hwa] at h;split at h
    · obtain⟨out,H',h1,h3⟩:=h
      refine⟨out,H',h1,?_⟩
      cases out with
      |ret v=>exact ih hw' hn' (hput v) h3
      |pan v=>exact⟨hk,h3⟩
    · obtain⟨t,v,h1,h2⟩:=h
      exact⟨t,v,h1,hk,h2⟩
    · rename_i c az hop
      obtain⟨p,h1,h2⟩:=h;refine⟨p,h1,ih hw' hn' ⟨(hput _).1,fun e=>?_⟩ h2⟩;have :=hn e;simp only[List.all_cons,Bool.and_eq_true] at this;have h3:=this.1;rw[ROper.nodef,hop] at h3;cases h3
    · obtain⟨m,es,h1,h2,h3⟩:=h
      exact⟨m,es,h1,h2,fun bs c mb k1 k2=>ih hw' hn' (hput _) (h3 bs c mb k1 k2)⟩
    · obtain⟨it,m,mb,c,seen,es,bs,h1,h2,h3,h4,h5⟩:=h
      exact⟨it,m,mb,c,seen,es,bs,h1,h2,h3,fun k=>ih hw' hn' (hput _) (h4 k),fun j k1 k2=>ih hw' hn' (hput _) (h5 j k1 k2)⟩
    · obtain⟨it,m,mb,c,seen,es,bs,j,h1,h2,h3,h4,h5⟩:=h
      exact⟨it,m,mb,c,seen,es,bs,j,h1,h2,h3,h4,ih hw' hn' (hput _) h5⟩
    · unfold stepK at h ⊢
      split at h
      · exact ih hw' hn' (hput _) h
      · exact h.elim
  · rename_i hwa
    rw[if_neg hwa] at h;exact ih hw' hn' (hput _) h
theorem aMx {pairs:List (Nat×Nat)} {base:Nat} {rl:List ROper}:∀{i k:Nat} {rd:List (Nat×Nat)} {ef:List (Nat×Heap×Heap)} {f:Slt} {H:Heap} {Q:Slt→Heap→Prop},(∀o∈rl,∀d,o.dst=some d→d∈W)→Keep W f0 f→
 FDr P g n pairs base i k rl rd ef f H Q→FDr P g n pairs base i k rl rd ef f H (fun f' H'=>Keep W f0 f'∧Q f' H'):=by
 induction rl with
 |nil=>exact fun _ hk h=>⟨hk,h⟩
 |cons r rs ih=>
  intro i k rd ef f H Q hw hk h;have hw':=fun o ho=>hw o (List.mem_cons_of_mem _ ho);have hput:∀v,Keep W f0 (putF n f r.dst v):=fun v=>hk.put _ (hw r List.mem_cons_self) v;unfold FDr at h ⊢;split
  · rename_i hwa
    rw[if_pos hwa] at h;split
    · rename_i hf
      rw[if_pos hf] at h;obtain⟨ob,val,h1,h2,h3⟩:=h;exact⟨ob,val,h1,h2,ih hw' (hput _) h3⟩
    · rename_i hf
      rw[if_neg hf] at h;split
      · rename_i he
        rw[if_pos he] at h;obtain⟨v,H',h1,h2,h3,h4⟩:=h;exact⟨v,H',h1,h2,h3,ih hw' (hput _) h4⟩
      · rename_i he
        rw[if_neg he] at h;obtain⟨v,h1,h2,h3⟩:=h;exact⟨v,h1,h2,ih hw' (hput _) h3⟩
  · rename_i hwa
    rw[if_neg hwa] at h;exact ih hw' (hput _) h
theorem aOl {rl:List ROper} (hw:∀d∈rl.filterMap (·.dst),d∈W):∀o∈rl,∀d,o.dst=some d→d∈W:=fun o ho d hd=>hw d (List.mem_filterMap.2 ⟨o,ho,hd⟩)
theorem aMv {c:ACode}:∀{f:Slt} {ds:List Dfr} {H:Heap} {Q:FQ},(∀d∈c.wr,d∈W)→(nd=true→c.nodef=true)→Kp W f0 nd ds0 f ds→FC P g n c f ds H Q→FC P g n c f ds H (fun e f' ds' H'=>Kp W f0 nd ds0 f' ds'∧Q e f' ds' H'):=by
 induction c with
 |skip=>exact fun _ _ hk h=>⟨hk,h⟩
 |ops rl=>exact fun hw hn hk h=>aJk (aOl hw) hn hk h
 |draw rl pairs=>exact fun hw _ hk h=>⟨h.1,aBd (fun _ _ h=>⟨⟨h.1,hk.2⟩,h.2⟩) (aMx (aOl hw) hk.1 h.2)⟩
 |seq a b iha ihb=>
  intro f ds H Q hw hn hk h;simp only[ACode.wr,List.mem_append] at hw;simp only[ACode.nodef,Bool.and_eq_true] at hn;show FC P g n a f ds H _;refine dG (fun e f ds H h=>?_) (iha (fun d hd=>hw d (.inl hd)) (fun e=>(hn e).1) hk h)
  cases e with
  |normal=>exact ihb (fun d hd=>hw d (.inr hd)) (fun e=>(hn e).2) h.1 h.2
  |_=>exact h
 |cond c a b iha ihb=>
  intro f ds H Q hw hn hk h;simp only[ACode.wr,List.mem_append] at hw;simp only[ACode.nodef,Bool.and_eq_true] at hn;obtain⟨t,h1,h2⟩:=h;refine⟨t,h1,?_⟩
  cases t with
  |true=>exact iha (fun d hd=>hw d (.inl hd)) (fun e=>(hn e).1) hk h2
  |false=>exact ihb (fun d hd=>hw d (.inr hd)) (fun e=>(hn e).2) hk h2
 |block id a ih=>
  intro f ds H Q hw hn hk h;show FC P g n a f ds H _;refine dG (fun e f ds H h=>?_) (ih hw hn hk h)
  cases e with
  |exit i=>
   obtain⟨h0,h⟩:=h;simp only[inBlockF] at h ⊢;split
   · rename_i hi;rw[if_pos hi] at h;exact⟨h0,h⟩
   · rename_i hi;rw[if_neg hi] at h;exact⟨h0,h⟩
  |_=>exact h
 |loop a ih=>
  intro f ds H Q hw hn hk h;obtain⟨I,m,h0,hI⟩:=h;refine⟨fun m f ds H=>Kp W f0 nd ds0 f ds∧I m f ds H,m,⟨hk,h0⟩,fun m f ds H hi=>dG (fun e f ds H h=>?_) (ih hw hn hi.1 (hI m f ds H hi.2))⟩
  cases e with
  |normal=>
   obtain⟨h1,k,hk,hi⟩:=h;exact⟨k,hk,h1,hi⟩
  |_=>exact h
 |exit id=>exact fun _ _ hk h=>⟨hk,h⟩
 |ret=>exact fun _ _ hk h=>⟨hk,h⟩
 |rangeF c ps a b iha ihb=>
  intro f ds H Q hw hn hk h;obtain⟨fid,fs,cs,v,He,k',s',st,Hf,h1,h2,h3,h4,h5⟩:=h;have hk':∀ds1,Kp W f0 nd ds0 f ds1:=fun ds1=>⟨hk.1,fun e=>by cases hn e⟩;refine⟨fid,fs,cs,v,He,k',s',st,Hf,h1,h2,h3,h4,?_⟩
  cases st with
  |ready=>exact⟨hk' _,h5⟩
  |done e=>cases e<;>exact⟨hk' _,h5⟩
  |busy=>exact h5.elim
  |over _=>exact h5.elim
theorem oT {c:ACode} {f:Slt} {ds:List Dfr} {H:Heap} {Q:FQ} (h:FC P g n c f ds H Q):FC P g n c f ds H (fun e f' ds' H'=>Keep c.wr f f'∧(c.nodef=true→ds'=ds)∧Q e f' ds' H'):=
 dG (fun _ _ _ _ h=>⟨h.1.1,h.1.2,h.2⟩) (aMv (nd:=c.nodef) (ds0:=ds) (fun _ h=>h) id ⟨.aPl,fun _=>rfl⟩ h)
theorem Keep.trans {W:List Nat} {f f' f'':Slt} (h:Keep W f f') (h':Keep W f' f''):Keep W f f'':=fun t ht=>(h' t ht).trans (h t ht)
theorem Keep.sub {W W':List Nat} {f f':Slt} (h:Keep W' f f') (hs:∀d∈W',d∈W):Keep W f f':=fun t ht=>h t (gY.2 fun hm=>gY.1 ht (hs t hm))
theorem dM {a:ACode} {f:Slt} {ds:List Dfr} {H:Heap} {Q:FQ} (cs:List Nat) (I:Nat→List AV→Heap→Prop) (m:Nat) (hn:a.nodef=true) (h0:I m (cs.map f) H)
 (h:∀m f' H',Keep a.wr f f'→I m (cs.map f') H'→FC P g n a f' ds H' (thenF (fun f'' _ H''=>∃k,k<m∧I k (cs.map f'') H'') Q)):FC P g n (.loop a) f ds H Q:=by
 refine⟨fun m f' ds' H'=>Keep a.wr f f'∧ds'=ds∧I m (cs.map f') H',m,⟨.aPl,rfl,h0⟩,?_⟩;rintro m f' ds' H' ⟨hk,rfl,hi⟩;refine dG (fun e f2 ds2 H2 hh=>?_) (oT (h m f' H' hk hi));obtain⟨h1,h2,h3⟩:=hh
 cases e with
 |normal=>
  obtain⟨k,hk2,hi2⟩:=h3;exact⟨k,hk2,hk.trans h1,h2 hn,hi2⟩
 |_=>exact h3
def rgOK (n cmp ix ln nx:Nat) (cs:List Nat) (B:ACode):Bool:=
 Nat.blt cmp n&&Nat.blt ix n&&Nat.blt nx n&& !Nat.beq cmp ix&& !Nat.beq cmp ln&& !Nat.beq nx ix&& !Nat.beq nx ln&& !Nat.beq ix ln&& !memN cmp cs&& !memN ix cs&& !memN nx cs&& !memN ix B.wr&& !memN ln B.wr&&B.nodef
theorem pZ {cs:List Nat} {f:Slt} {d:Nat} {v:AV} (h:memN d cs=false):cs.map (upd f d v)=cs.map f:=
 List.map_congr_left fun t ht=>eT f v fun e=>gY.1 h (e▸ht)
def rgW (cmp ix nx:Nat) (B:ACode):List Nat:=cmp::nx::ix::B.wr
theorem bD {id cmp ix ln nx:Nat} {B:ACode} {f:Slt} {ds:List Dfr} {H:Heap} {Q:FQ} (cs:List Nat) (J:Nat→List AV→Heap→Prop) (N:Nat) (hN:(N:Int)<2^63)
 (hs:rgOK n cmp ix ln nx cs B=true) (h1:f ix=.int .i64 0) (h2:f ln=.int .i64 N) (h0:J 0 (cs.map f) H)
 (body:∀(i:Nat) (f':Slt) (H':Heap),i<N→Keep (rgW cmp ix nx B) f f'→f' ix=.int .i64 i→J i (cs.map f') H'→FC P g n B f' ds H' (thenF (fun f'' _ H''=>J (i+1) (cs.map f'') H'') (inBlockF id Q)))
 (done:∀(f':Slt) (H':Heap),Keep (rgW cmp ix nx B) f f'→J N (cs.map f') H'→Q .normal f' ds H'):
 FC P g n (.block id (.loop (.seq (.ops [⟨some cmp,.bin .lss (.tmp ix) (.tmp ln),none⟩]) (.seq (.cond (.tmp cmp) .skip (.exit id)) (.seq B
  (.ops [⟨some nx,.bin .add (.tmp ix) (.const (.int .i64 1)),none⟩,⟨some ix,.mov (.tmp nx),none⟩])))))) f ds H Q:=by
 simp only[rgOK,Bool.and_eq_true,Bool.not_eq_true',Nat.blt_eq] at hs;obtain⟨⟨⟨⟨⟨⟨⟨⟨⟨⟨⟨⟨⟨s1,s2⟩,s3⟩,s4⟩,s5⟩,s6⟩,s7⟩,s8⟩,c1⟩,c2⟩,c3⟩,b1⟩,b2⟩,b3⟩:=hs
 have ne:∀{a b:Nat},Nat.beq a b=false→a≠b:=fun h e=>by subst e;simp at h
 have kpU:∀{f':Slt} {d:Nat} {v:AV},d∈rgW cmp ix nx B→Keep (rgW cmp ix nx B) f f'→Keep (rgW cmp ix nx B) f (upd f' d v):=fun {f' d v} hd hk t ht=>by
  have hne:t≠d:=fun e=>gY.1 ht (by rw[e];exact hd);rw[eT _ _ hne];exact hk t ht
 refine aMw (id:=id) (cmp:=cmp) (ix:=ix) (ln:=ln) (nx:=nx) (B:=B) (fun i f' H'=>Keep (rgW cmp ix nx B) f f'∧J i (cs.map f') H') N hN ⟨s1,s2,s3,ne s4,ne s5,ne s6,ne s7,ne s8⟩ h1 h2 ⟨.aPl,h0⟩ ?_ ?_ ?_
 · rintro i f' H' d v hd ⟨hk,hj⟩
   have hm:memN d cs=false∧d∈rgW cmp ix nx B:=by rcases hd with rfl|rfl|rfl<;>simp[c1,c2,c3,rgW]
   exact⟨kpU hm.2 hk,by rw[pZ hm.1];exact hj⟩
 · rintro i f' H' hi e1 e2 ⟨hk,hj⟩
   refine dG (fun e f2 ds2 H2 hh=>?_) (oT (body i f' H' hi hk e1 hj));obtain⟨k1,k2,k3⟩:=hh
   cases e with
   |normal=>exact⟨k2 b3,by rw[k1 _ b1];exact e1,by rw[k1 _ b2];exact e2,hk.trans (k1.sub fun d hd=>by simp[rgW,hd]),k3⟩
   |_=>exact k3
 · rintro f' H' e2 ⟨hk,hj⟩
   exact done f' H' hk hj
def rcOK (n cmp ix nx:Nat) (cs:List Nat) (B:ACode):Bool:=
 Nat.blt cmp n&&Nat.blt ix n&&Nat.blt nx n&& !Nat.beq cmp ix&& !Nat.beq nx ix&& !memN cmp cs&& !memN ix cs&& !memN nx cs&& !memN ix B.wr&&B.nodef
theorem dH {id cmp ix nx:Nat} {N':Int} {B:ACode} {f:Slt} {ds:List Dfr} {H:Heap} {Q:FQ} (cs:List Nat) (J:Nat→List AV→Heap→Prop) (N:Nat) (hN:(N:Int)<2^63) (hNN:N'=(N:Int))
 (hs:rcOK n cmp ix nx cs B=true) (h1:f ix=.int .i64 0) (h0:J 0 (cs.map f) H)
 (body:∀(i:Nat) (f':Slt) (H':Heap),i<N→Keep (rgW cmp ix nx B) f f'→f' ix=.int .i64 i→J i (cs.map f') H'→FC P g n B f' ds H' (thenF (fun f'' _ H''=>J (i+1) (cs.map f'') H'') (inBlockF id Q)))
 (done:∀(f':Slt) (H':Heap),Keep (rgW cmp ix nx B) f f'→J N (cs.map f') H'→Q .normal f' ds H'):
 FC P g n (.block id (.loop (.seq (.ops [⟨some cmp,.bin .lss (.tmp ix) (.const (.int .i64 N')),none⟩]) (.seq (.cond (.tmp cmp) .skip (.exit id)) (.seq B
  (.ops [⟨some nx,.bin .add (.tmp ix) (.const (.int .i64 1)),none⟩,⟨some ix,.mov (.tmp nx),none⟩])))))) f ds H Q:=by
 simp only[rcOK,Bool.and_eq_true,Bool.not_eq_true',Nat.blt_eq] at hs;obtain⟨⟨⟨⟨⟨⟨⟨⟨⟨s1,s2⟩,s3⟩,s4⟩,s6⟩,c1⟩,c2⟩,c3⟩,b1⟩,b3⟩:=hs
 have ne:∀{a b:Nat},Nat.beq a b=false→a≠b:=fun h e=>by subst e;simp at h
 have kpU:∀{f':Slt} {d:Nat} {v:AV},d∈rgW cmp ix nx B→Keep (rgW cmp ix nx B) f f'→Keep (rgW cmp ix nx B) f (upd f' d v):=fun {f' d v} hd hk t ht=>by
  have hne:t≠d:=fun e=>gY.1 ht (by rw[e];exact hd);rw[eT _ _ hne];exact hk t ht
 refine aJe (id:=id) (cmp:=cmp) (ix:=ix) (nx:=nx) (B:=B) (fun i f' H'=>Keep (rgW cmp ix nx B) f f'∧J i (cs.map f') H') N hN hNN ⟨s1,s2,s3,ne s4,ne s6⟩ h1 ⟨.aPl,h0⟩ ?_ ?_ ?_
 · rintro i f' H' d v hd ⟨hk,hj⟩
   have hm:memN d cs=false∧d∈rgW cmp ix nx B:=by rcases hd with rfl|rfl|rfl<;>simp[c1,c2,c3,rgW]
   exact⟨kpU hm.2 hk,by rw[pZ hm.1];exact hj⟩
 · rintro i f' H' hi e1 ⟨hk,hj⟩
   refine dG (fun e f2 ds2 H2 hh=>?_) (oT (body i f' H' hi hk e1 hj));obtain⟨k1,k2,k3⟩:=hh
   cases e with
   |normal=>exact⟨k2 b3,by rw[k1 _ b1];exact e1,hk.trans (k1.sub fun d hd=>by simp[rgW,hd]),k3⟩
   |_=>exact k3
 · rintro f' H' ⟨hk,hj⟩
   exact done f' H' hk hj
theorem aGv {nw tag:Nat} (h:Nat.blt tag 2=true):tagA none nw tag=tag:=by
 rw[Nat.blt_eq] at h
 match tag,h with
 |0,_=>rfl
 |1,_=>rfl
theorem jL {H:Heap} {nw:Nat} {v:AV} (h:v.free=true):shutF H none nw 0 v=some v:=by
 have key:shut1 H none nw v=some v:=by
  cases v<;>first
   |(simp only[AV.free] at h;cases h;done)
   |(simp only[AV.free,Bool.and_eq_true] at h;simp only[shut1,h.2,aGv h.1];done)
   |(simp only[shut1,h])
 cases v<;>exact key
theorem bZ {mu:Bool} (hm:Fit P g) (hg:GFree g) {k:FuncId} {F:AFn} (hF:FnIs P g mu k F) {args:List AV} {v':AV} (hl:args.length≤F.ntmps) (ha:freeL args=true)
 (h:FC P g F.ntmps F.body (startF args) [] ⟨0,.nil⟩ (retF F.results fun o H2=>∃v n,o=.ret v∧∀nw,shutF H2 none nw n v=some v')) (H:Heap):Sound P g k args H (.ret v') H:=by
 refine(oY hm hF (aMp hl h)).frame hg ha H fun out H2 hR=>?_;obtain⟨v,n,rfl,hs⟩:=hR;exact⟨none,n,v',fun k hk=>(by cases hk),hs _,rfl,rfl⟩
theorem aLv {rs:List ARes} {R R':Out→Heap→Prop} (h:∀o H,R o H→R' o H) {e:AEx} {f:Slt} {ds:List Dfr} {H:Heap} (hr:retF rs R e f ds H):retF rs R' e f ds H:=by
 cases e with
 |normal=>obtain⟨h1,vs,h2,h3⟩:=hr;exact⟨h1,vs,h2,h _ _ h3⟩
 |ret=>obtain⟨h1,vs,h2,h3⟩:=hr;exact⟨h1,vs,h2,h _ _ h3⟩
 |panic v=>obtain⟨h1,h3⟩:=hr;exact⟨h1,h _ _ h3⟩
 |exit _=>exact hr
theorem tH {mu:Bool} (hm:Fit P g) (hg:GFree g) {k:FuncId} {F:AFn} (hF:FnIs P g mu k F) {args:List AV} {v:AV} (hl:args.length≤F.ntmps) (ha:freeL args=true) (hv:v.free=true)
 (h:FC P g F.ntmps F.body (startF args) [] ⟨0,.nil⟩ (retF F.results fun o _=>o=.ret v)) (H:Heap):Sound P g k args H (.ret v) H:=
 bZ hm hg hF hl ha (dG (fun _ _ _ _=>aLv fun o H2 e=>⟨v,0,e,fun _=>jL hv⟩) h) H
end
end
end Go.Av
namespace Go.Num
def W:Nat:=4294967296
theorem tJ:0<W:=by decide
theorem dU (k:Nat):0<W^k:=Nat.pow_pos tJ
def limb (n k:Nat):Nat:=n / W^k%W
theorem dC (n k:Nat):limb n k<W:=Nat.mod_lt _ tJ
theorem mod_succ (n k:Nat):n%W^(k+1)=n%W^k+W^k*limb n k:=Nat.mod_pow_succ
theorem mO {n k:Nat} (h:n<W^k):limb n k=0:=by
 unfold limb;rw[Nat.div_eq_of_lt h];rfl
theorem xV {n m k:Nat} (h:n<W^m) (hk:m≤k):limb n k=0:=
 mO (Nat.lt_of_lt_of_le h (Nat.pow_le_pow_right tJ hk))
def cr (a b k:Nat):Nat:=(a%W^k+b%W^k) / W^k
theorem aRe (a b:Nat):cr a b 0=0:=by simp[cr,Nat.mod_one]
theorem aRd (a b k:Nat):cr a b (k+1)=(cr a b k+limb a k+limb b k) / W:=by
 unfold cr;rw[mod_succ,mod_succ,Nat.pow_succ,←Nat.div_div_eq_div_mul];congr 1
 rw[show a%W^k+W^k*limb a k+(b%W^k+W^k*limb b k)=a%W^k+b%W^k+W^k*(limb a k+limb b k) by rw[Nat.mul_add];omega,
  Nat.add_mul_div_left _ _ (dU k)]
 omega
theorem aTs (a b k:Nat):cr a b k≤1:=by
 unfold cr;have h1:=Nat.mod_lt a (dU k);have h2:=Nat.mod_lt b (dU k);have :(a%W^k+b%W^k) / W^k<2:=(Nat.div_lt_iff_lt_mul (dU k)).2 (by omega);omega
theorem aFb (a b k:Nat):(a+b) / W^k=a / W^k+b / W^k+cr a b k:=by
 unfold cr;have h1:=Nat.div_add_mod a (W^k);have h2:=Nat.div_add_mod b (W^k)
 have :a+b=a%W^k+b%W^k+W^k*(a / W^k+b / W^k):=by rw[Nat.mul_add];omega
 rw[this,Nat.add_mul_div_left _ _ (dU k)];omega
theorem aOh (a b k:Nat):limb (a+b) k=(cr a b k+limb a k+limb b k)%W:=by
 unfold limb;rw[aFb];simp only[W];omega
theorem aUv {a b k:Nat} (ha:a<W^k) (hb:b<W^k):cr a b k=if a+b<W^k then 0 else 1:=by
 have h:=aTs a b k;unfold cr at *;rw[Nat.mod_eq_of_lt ha,Nat.mod_eq_of_lt hb] at *;split
 · rename_i hl;exact Nat.div_eq_of_lt hl
 · rename_i hl
   have :=Nat.div_pos (show W^k≤a+b by omega) (dU k);omega
def bw (a b k:Nat):Nat:=if a%W^k<b%W^k then 1 else 0
theorem aQv (a b:Nat):bw a b 0=0:=by simp[bw,Nat.mod_one]
theorem aQu (a b k:Nat):bw a b (k+1)=if limb a k<limb b k+bw a b k then 1 else 0:=by
 unfold bw;rw[mod_succ,mod_succ];have h1:=Nat.mod_lt a (dU k);have h2:=Nat.mod_lt b (dU k);generalize a%W^k=r at *;generalize b%W^k=s at *;generalize limb a k=x;generalize limb b k=y;generalize W^k=P at *
 rcases Nat.lt_trichotomy x y with h|h|h
 · have :P*(x+1)≤P*y:=Nat.mul_le_mul_left P h
   rw[Nat.mul_add,Nat.mul_one] at this;rw[if_pos (by omega),if_pos (by omega)]
 · subst h
   split<;>split<;>(try split at *)<;>omega
 · have :P*(y+1)≤P*x:=Nat.mul_le_mul_left P h
   rw[Nat.mul_add,Nat.mul_one] at this;rw[if_neg (by omega),if_neg (by split<;>omega)]
theorem aOi {a b:Nat} (h:b≤a) (k:Nat):(limb (a -b) k:Int)=((limb a k:Int) -limb b k -bw a b k)%(W:Int):=by
 have h1:=Nat.div_add_mod a (W^k);have h2:=Nat.div_add_mod b (W^k);have l1:=Nat.mod_lt a (dU k);have l2:=Nat.mod_lt b (dU k)
 have e:((a -b) / W^k:Nat)=a / W^k -b / W^k -bw a b k∧b / W^k+bw a b k≤a / W^k:=by
  unfold bw;generalize a%W^k=r at *;generalize b%W^k=s at *;generalize a / W^k=x at *;generalize b / W^k=y at *;generalize hP:W^k=P at *;have hPp:0<P:=hP▸dU k
  have hxy:y≤x:=by
   rcases Nat.lt_or_ge x y with hc|hc
   · have :P*(x+1)≤P*y:=Nat.mul_le_mul_left P hc
     rw[Nat.mul_add,Nat.mul_one] at this;omega
   · exact hc
  split
  · rename_i hrs
    have hne:y≠x:=fun e=>by subst e;omega
    have hm:P*(x -y -1)=P*x -P*y -P:=by rw[Nat.mul_sub,Nat.mul_sub,Nat.mul_one]
    have hm2:P*(y+1)≤P*x:=Nat.mul_le_mul_left P (by omega);rw[Nat.mul_add,Nat.mul_one] at hm2;refine⟨?_,by omega⟩
    have :a -b=(r+P -s)+P*(x -y -1):=by omega
    rw[this,Nat.add_mul_div_left _ _ hPp,Nat.div_eq_of_lt (by omega)];omega
  · have hm:P*(x -y)=P*x -P*y:=Nat.mul_sub ..
    have hm2:P*y≤P*x:=Nat.mul_le_mul_left P hxy;refine⟨?_,by omega⟩
    have :a -b=(r -s)+P*(x -y):=by omega
    rw[this,Nat.add_mul_div_left _ _ hPp,Nat.div_eq_of_lt (by omega)];omega
 unfold limb;rw[e.1];have :=e.2;simp only[W] at *;omega
theorem pF (a k:Nat):a / W^k=a / W^(k+1)*W+limb a k:=by
 unfold limb;rw[Nat.pow_succ,←Nat.div_div_eq_div_mul];have :=Nat.div_add_mod (a / W^k) W;rw[Nat.mul_comm] at this;omega
theorem xG {a b k:Nat} (h:a / W^(k+1)=b / W^(k+1)) (hk:limb a k=limb b k):a / W^k=b / W^k:=by
 rw[pF a,pF b,h,hk]
theorem uO {a b k:Nat} (h:a / W^(k+1)=b / W^(k+1)) (hk:limb a k<limb b k):a<b:=by
 have h1:a / W^k<b / W^k:=by rw[pF a,pF b,h];omega
 rcases Nat.lt_or_ge a b with h2|h2
 · exact h2
 · have :=Nat.div_le_div_right (c:=W^k) h2
   omega
theorem aBx {a b m:Nat} (ha:a<W^m) (hb:b<W^m) (h:∀k,k<m→limb a k=limb b k):a=b:=by
 have :∀j,j≤m→a / W^(m -j)=b / W^(m -j):=by
  intro j
  induction j with
  |zero=>intro _;rw[Nat.sub_zero,Nat.div_eq_of_lt ha,Nat.div_eq_of_lt hb]
  |succ j ih=>
   intro hj;refine xG (k:=m -(j+1)) ?_ (h _ (by omega));rw[show m -(j+1)+1=m -j by omega];exact ih (by omega)
 have :=this m (Nat.le_refl _);simpa using this
def ofL:List Nat→Nat
 |[]=>0
 |x::l=>x+W*ofL l
theorem aAc:∀(l:List Nat),(∀x∈l,x<W)→ofL l<W^l.length
 |[],_=>by decide
 |x::l,h=>by
  have h1:=aAc l fun y hy=>h y (by simp[hy]);have h2:=h x (by simp);simp only[ofL,List.length_cons,Nat.pow_succ];have :W*(ofL l+1)≤W*W^l.length:=Nat.mul_le_mul_left W h1;rw[Nat.mul_add,Nat.mul_one] at this;rw[Nat.mul_comm (W^l.length)];omega
theorem pW:∀(l:List Nat) (k:Nat),(∀x∈l,x<W)→limb (ofL l) k=l.getD k 0
 |[],k,_=>by simp[ofL,limb]
 |x::l,0,h=>by
  have :=h x (by simp);simp only[ofL,limb,Nat.pow_zero,Nat.div_one,List.getD_cons_zero];rw[Nat.add_mul_mod_self_left,Nat.mod_eq_of_lt this]
 |x::l,k+1,h=>by
  have h1:=h x (by simp);have h2:=pW l k fun y hy=>h y (by simp[hy]);rw[List.getD_cons_succ,←h2];simp only[ofL,limb];rw[Nat.pow_succ,Nat.mul_comm (W^k),←Nat.div_div_eq_div_mul,Nat.add_mul_div_left _ _ tJ,Nat.div_eq_of_lt h1,Nat.zero_add]
def limbs (m n:Nat):List Nat:=(List.range m).map (limb n)
theorem bE (m n:Nat):(limbs m n).length=m:=by simp[limbs]
theorem dL {m n k:Nat} (h:k<m):(limbs m n).getD k 0=limb n k:=by
 simp[limbs,List.getD,h]
theorem pX {m n:Nat}:∀x∈limbs m n,x<W:=by
 intro x hx;simp only[limbs,List.mem_map] at hx;obtain⟨k,_,rfl⟩:=hx;exact dC _ _
theorem cU {m n:Nat} (h:n<W^m):ofL (limbs m n)=n:=by
 refine aBx (m:=m) ?_ h fun k hk=>?_
 · have :=aAc (limbs m n) pX
   rwa [bE] at this
 · rw[pW _ _ pX,dL hk]
theorem xW {l:List Nat} (h:∀x∈l,x<W):limbs l.length (ofL l)=l:=by
 refine List.ext_getElem (by simp[limbs]) fun k h1 h2=>?_;simp only[limbs,List.getElem_map,List.getElem_range];rw[pW _ _ h];simp[List.getD,h2]
def szF:Nat→Nat→Nat
 |0,_=>0
 |k+1,a=>if limb a k=0 then szF k a else k+1
def sz (a:Nat):Nat:=szF 16 a
theorem aGt:∀k a,szF k a≤k
 |0,_=>Nat.le_refl _
 |k+1,a=>by
  unfold szF;split
  · exact Nat.le_succ_of_le (aGt k a)
  · exact Nat.le_refl _
theorem aGu:∀k a,a<W^k→a<W^szF k a
 |0,_,h=>h
 |k+1,a,h=>by
  unfold szF;split
  · rename_i hl
    refine aGu k a ?_;unfold limb at hl
    have h1:a / W^k<W:=by rw[Nat.div_lt_iff_lt_mul (dU k),Nat.mul_comm,←Nat.pow_succ];exact h
    rw[Nat.mod_eq_of_lt h1] at hl
    rcases Nat.lt_or_ge a (W^k) with h2|h2
    · exact h2
    · have :=Nat.div_pos h2 (dU k)
      omega
  · exact h
theorem tC:∀k a,szF k a=0∨limb a (szF k a -1)≠0
 |0,_=>.inl rfl
 |k+1,a=>by
  unfold szF;split
  · exact tC k a
  · exact .inr (by simpa)
theorem aIv {a:Nat} (h:a<W^16):a<W^sz a:=aGu 16 a h
theorem aQb (a:Nat):sz a≤16:=aGt 16 a
theorem aTg {a:Nat} (h:a<W^16):sz a=0↔a=0:=by
 constructor
 · intro e
   have :=aIv h;rw[e] at this;simpa using this
 · rintro rfl;decide
theorem aHz {a k:Nat} (h:limb a k≠0):W^k≤a:=by
 rcases Nat.lt_or_ge a (W^k) with h1|h1
 · exact absurd (mO h1) h
 · exact h1
theorem bCw {a:Nat} (h:sz a≠0):W^(sz a -1)≤a:=by
 rcases tC 16 a with h1|h1
 · exact absurd h1 h
 · exact aHz h1
def bitlen (a:Nat):Nat:=if a=0 then 0 else Nat.log2 a+1
theorem eU {a n:Nat}:bitlen a≤n↔a<2^n:=by
 unfold bitlen;split
 · rename_i h;subst h;simp[Nat.pow_pos]
 · rename_i h
   rw[←Nat.log2_lt h];omega
theorem aJv {a n:Nat} (h1:a<2^(n+1)) (h2:2^n≤a):bitlen a=n+1:=by
 have a1:bitlen a≤n+1:=eU.2 h1
 have a2:¬bitlen a≤n:=fun h=>by have :=eU.1 h;omega
 omega
theorem gJ {a k:Nat} (h:a / 2^k≠0):bitlen a=bitlen (a / 2^k)+k:=by
 obtain⟨n,hn⟩:∃n,bitlen (a / 2^k)=n+1:=⟨Nat.log2 (a / 2^k),by unfold bitlen;rw[if_neg h]⟩;have h1:a / 2^k<2^(n+1):=eU.1 (by omega)
 have h2:¬a / 2^k<2^n:=fun h=>by have :=eU.2 h;omega
 rw[hn,show n+1+k=(n+k)+1 by omega];refine aJv ?_ ?_
 · rw[Nat.div_lt_iff_lt_mul (Nat.pow_pos (by decide))] at h1
   rwa [show n+k+1=n+1+k by omega,Nat.pow_add]
 · rw[Nat.div_lt_iff_lt_mul (Nat.pow_pos (by decide))] at h2
   rw[Nat.pow_add];omega
theorem aJw {a:Nat} (h:a<W^16) (h0:sz a≠0):bitlen a=32*(sz a -1)+bitlen (limb a (sz a -1)):=by
 have e:W^(sz a -1)=2^(32*(sz a -1)):=by rw[Nat.pow_mul];rfl
 have h1:=bCw h0;have h2:=aIv h
 have h3:a / W^(sz a -1)<W:=by
  rw[Nat.div_lt_iff_lt_mul (dU _),Nat.mul_comm,←Nat.pow_succ]
  rwa [show(sz a -1).succ=sz a by omega]
 have h4:limb a (sz a -1)=a / 2^(32*(sz a -1)):=by unfold limb;rw[Nat.mod_eq_of_lt h3,e]
 have h5:=Nat.div_pos h1 (dU (sz a -1));rw[h4,gJ (k:=32*(sz a -1)) (by rw[←e];omega)];omega
theorem sY:∀(l:List Nat) (j d:Nat),j<l.length→ofL (l.set j d)+l.getD j 0*W^j=ofL l+d*W^j
 |[],_,_,h=>by simp at h
 |x::l,0,d,_=>by simp[ofL];omega
 |x::l,j+1,d,h=>by
  have ih:=sY l j d (by simpa using h);simp only[List.set_cons_succ,ofL,List.getD_cons_succ,Nat.pow_succ]
  have e:∀t,t*(W^j*W)=W*(t*W^j):=fun t=>by rw[Nat.mul_comm (W^j),←Nat.mul_assoc,Nat.mul_comm t,Nat.mul_assoc]
  rw[e,e,Nat.add_assoc,Nat.add_assoc,←Nat.mul_add,←Nat.mul_add,ih]
theorem aNz {l:List Nat} {j d k:Nat} (h:j<l.length):(l.set j d).getD k 0=if k=j then d else l.getD k 0:=by
 simp only[List.getD,List.getElem?_set];by_cases e:j=k
 · subst e;simp[h]
 · rw[if_neg e,if_neg (Ne.symm e)]
def LW (n:Nat) (l:List Nat):Prop:=l.length=n∧∀d∈l,d<W
theorem LW.set {n:Nat} {l:List Nat} (h:LW n l) (j:Nat) {d:Nat} (hd:d<W):LW n (l.set j d):=⟨by rw[List.length_set];exact h.1,fun x hx=>by
 rcases List.mem_or_eq_of_mem_set hx with h1|h1
 · exact h.2 x h1
 · omega⟩
theorem LW.getD {n:Nat} {l:List Nat} (h:LW n l) (j:Nat):l.getD j 0<W:=by
 by_cases hj:j<l.length
 · rw[List.getD,List.getElem?_eq_getElem hj];exact h.2 _ (List.getElem_mem hj)
 · rw[List.getD,List.getElem?_eq_none (by omega)];decide
theorem LW.lt {n:Nat} {l:List Nat} (h:LW n l):ofL l<W^n:=by
 have :=aAc l h.2
 rwa [h.1] at this
theorem LW.eq {n:Nat} {l:List Nat} (h:LW n l):l=limbs n (ofL l):=by
 have :=xW h.2;rw[h.1] at this;exact this.symm
theorem LW.limb {n:Nat} {l:List Nat} (h:LW n l) (k:Nat):limb (ofL l) k=l.getD k 0:=pW l k h.2
theorem aOm {o:List Nat} {i k c D P b:Nat} (ho:LW 32 o) (hik:i+k<32) (he:ofL o+c*W^(i+k)=P+D*W^i*(b%W^k)):
 let t:=c+D*limb b k+o.getD (i+k) 0
 ofL (o.set (i+k) (t%W))+t / W*W^(i+(k+1))=P+D*W^i*(b%W^(k+1)):=by
 intro t;have h1:=sY o (i+k) (t%W) (by rw[ho.1];exact hik)
 have h2:t / W*W^(i+(k+1))+t%W*W^(i+k)=t*W^(i+k):=by
  rw[show i+(k+1)=(i+k)+1 by omega,Nat.pow_succ,Nat.mul_comm (W^(i+k)),←Nat.mul_assoc,←Nat.add_mul,Nat.mul_comm (t / W)];rw[Nat.div_add_mod]
 have h3:b%W^(k+1)=b%W^k+W^k*limb b k:=mod_succ b k
 have h4:D*W^i*(W^k*limb b k)=D*limb b k*W^(i+k):=by
  rw[Nat.pow_add];simp only[Nat.mul_comm,Nat.mul_left_comm,Nat.mul_assoc]
 have h5:t*W^(i+k)=c*W^(i+k)+D*limb b k*W^(i+k)+o.getD (i+k) 0*W^(i+k):=by
  show(c+D*limb b k+o.getD (i+k) 0)*_=_;rw[Nat.add_mul,Nat.add_mul]
 rw[h3,Nat.mul_add,h4];omega
theorem aRp {o:List Nat} {i m c D a b:Nat} (ho:LW 32 o) (him:i+m<32) (hb:b<W^m) (hD:D=limb a i) (he:ofL o+c*W^(i+m)=a%W^i*b+D*W^i*(b%W^m)) (hz:o.getD (i+m) 0=0):
 ofL (o.set (i+m) c)=a%W^(i+1)*b:=by
 have h1:=sY o (i+m) c (by rw[ho.1];exact him);rw[hz,Nat.zero_mul,Nat.add_zero] at h1;rw[h1,he,Nat.mod_eq_of_lt hb,mod_succ,hD,Nat.add_mul,Nat.mul_comm (limb a i)]
theorem uN {m n X:Nat} (h:X<W^n) (hz:∀k,m≤k→k<n→limb X k=0):X<W^m:=by
 have h1:=aGu n X h;have h2:=aGt n X
 rcases Nat.lt_or_ge m (szF n X) with h3|h3
 · rcases tC n X with h4|h4
   · omega
   · exact absurd (hz _ (by omega) (by omega)) h4
 · exact Nat.lt_of_lt_of_le h1 (Nat.pow_le_pow_right tJ h3)
theorem aFn {m n X:Nat} (h:m≤n):(limbs n X).take m=limbs m X:=by
 unfold limbs;rw[←List.map_take,List.take_range,Nat.min_eq_left h]
theorem aFm {X:Nat} (h:X<W^32):X<W^16↔(limbs 32 X).drop 16=List.replicate 16 0:=by
 constructor
 · intro hx
   refine List.ext_getElem (by simp[limbs]) fun k h1 h2=>?_;simp only[List.getElem_drop,limbs,List.getElem_map,List.getElem_range,List.getElem_replicate];exact xV hx (by omega)
 · intro e
   refine uN h fun k hk1 hk2=>?_
   have :((limbs 32 X).drop 16).getD (k -16) 0=0:=by rw[e,List.getD,List.getElem?_replicate];split<;>rfl
   rw[List.getD,List.getElem?_drop,show 16+(k -16)=k by omega] at this;have h2:=dL (n:=X) hk2;rw[List.getD] at h2;omega
end Go.Num
namespace Go.Geo
structure V where
 x:Int
 y:Int
 z:Int
deriving DecidableEq,Inhabited
def dot (a b:V):Int:=a.x*b.x+a.y*b.y+a.z*b.z
def cross (a b:V):V:=⟨a.y*b.z -a.z*b.y,a.z*b.x -a.x*b.z,a.x*b.y -a.y*b.x⟩
def sub (a b:V):V:=⟨a.x-b.x,a.y-b.y,a.z-b.z⟩
def add (a b:V):V:=⟨a.x+b.x,a.y+b.y,a.z+b.z⟩
def smul (c:Int) (a:V):V:=⟨c*a.x,c*a.y,c*a.z⟩
def V0:V:=⟨0,0,0⟩
def det (n a b:V):Int:=dot n (cross a b)
theorem V.ext' {a b:V} (h1:a.x=b.x) (h2:a.y=b.y) (h3:a.z=b.z):a=b:=by
 cases a;cases b;simp_all
theorem sq_pos {a:Int} (h:a≠0):0<a*a:=by
 rcases Int.lt_or_gt_of_ne h with h|h
 · exact Int.mul_pos_of_neg_of_neg h h
 · exact Int.mul_pos h h
theorem sq_nonneg (a:Int):0≤a*a:=by
 by_cases h:a=0
 · simp[h]
 · exact Int.le_of_lt (sq_pos h)
theorem kY (a:V):0≤dot a a:=by
 have :=sq_nonneg a.x;have :=sq_nonneg a.y;have :=sq_nonneg a.z;simp only[dot];omega
theorem bJ {a:V} (h:a≠V0):0<dot a a:=by
 have h1:=sq_nonneg a.x;have h2:=sq_nonneg a.y;have h3:=sq_nonneg a.z
 rcases Decidable.em (a.x=0) with hx|hx
 · rcases Decidable.em (a.y=0) with hy|hy
   · rcases Decidable.em (a.z=0) with hz|hz
     · exact absurd (V.ext' hx hy hz) h
     · have :=sq_pos hz;simp only[dot];omega
   · have :=sq_pos hy;simp only[dot];omega
 · have :=sq_pos hx;simp only[dot];omega
theorem wL {a:V} (h:dot a a≤0):a=V0:=
 Decidable.byContradiction fun hc=>absurd (bJ hc) (by omega)
theorem sub_eq_zero {a b:V} (h:sub a b=V0):a=b:=by
 have h1:a.x -b.x=0:=congrArg V.x h;have h2:a.y -b.y=0:=congrArg V.y h;have h3:a.z -b.z=0:=congrArg V.z h;exact V.ext' (by omega) (by omega) (by omega)
theorem aXh {a b:V} (h:a≠b):sub a b≠V0:=fun e=>h (sub_eq_zero e)
theorem fW {c a:Int} (hc:0<c) (h:0≤c*a):0≤a:=by
 rcases Int.lt_trichotomy a 0 with h'|h'|h'
 · have :=Int.mul_neg_of_pos_of_neg hc h';omega
 · omega
 · omega
theorem bV {c a:Int} (hc:0<c) (h:c*a=0):a=0:=by
 rcases Int.mul_eq_zero.1 h with h|h<;>omega
theorem nT (n u v w t:V):det u v w*dot n t=det n v w*dot u t+det n w u*dot v t+det n u v*dot w t:=by
 simp only[det,dot,cross]
 grind
theorem aBs {n u v w:V} (hn:n≠V0) (hu:dot n u=0) (hv:dot n v=0) (hw:dot n w=0):det u v w=0:=by
 have h:=nT n u v w n
 have e:∀a:V,dot a n=dot n a:=fun a=>by simp only[dot];grind
 rw[e u,e v,e w,hu,hv,hw] at h;have :=bJ hn;simp only[Int.mul_zero,Int.add_zero] at h
 rcases Int.mul_eq_zero.1 h with h|h
 · exact h
 · omega
theorem three {n u v w:V} (hn:n≠V0) (hu:dot n u=0) (hv:dot n v=0) (hw:dot n w=0):add (add (smul (det n v w) u) (smul (det n w u) v)) (smul (det n u v) w)=V0:=by
 have h:=aBs hn hu hv hw
 have hx:det u v w*n.x=det n v w*u.x+det n w u*v.x+det n u v*w.x:=by simp only[det,dot,cross];grind
 have hy:det u v w*n.y=det n v w*u.y+det n w u*v.y+det n u v*w.y:=by simp only[det,dot,cross];grind
 have hz:det u v w*n.z=det n v w*u.z+det n w u*v.z+det n u v*w.z:=by simp only[det,dot,cross];grind
 rw[h,Int.zero_mul] at hx hy hz;exact V.ext' (by simp only[add,smul,V0];omega) (by simp only[add,smul,V0];omega) (by simp only[add,smul,V0];omega)
theorem para {n u v:V} (hn:n≠V0) (hu:dot n u=0) (hv:dot n v=0) (h:det n u v=0):smul (dot u u) v=smul (dot u v) u:=by
 have hp:=bJ hn
 have e1:dot n n*(cross u v).x=det n u v*n.x+dot n v*(n.z*u.y -n.y*u.z) -dot n u*(n.z*v.y -n.y*v.z):=by simp only[det,dot,cross];grind
 have e2:dot n n*(cross u v).y=det n u v*n.y+dot n v*(n.x*u.z -n.z*u.x) -dot n u*(n.x*v.z -n.z*v.x):=by simp only[det,dot,cross];grind
 have e3:dot n n*(cross u v).z=det n u v*n.z+dot n v*(n.y*u.x -n.x*u.y) -dot n u*(n.y*v.x -n.x*v.y):=by simp only[det,dot,cross];grind
 rw[hu,hv,h] at e1 e2 e3;have c1:=bV hp (by rw[e1];simp);have c2:=bV hp (by rw[e2];simp);have c3:=bV hp (by rw[e3];simp);simp only[cross] at c1 c2 c3;refine V.ext' ?_ ?_ ?_<;>simp only[smul,dot]<;>grind
structure Cone (P:V→Prop):Prop where
 add:∀u v,P u→P v→P (add u v)
 smul:∀c u,0<c→P u→P (smul c u)
 zero:¬P V0
theorem smul_zero (u:V):smul 0 u=V0:=by simp[smul,V0]
theorem add_zero (u:V):add u V0=u:=by simp[add,V0]
theorem zero_add (u:V):add V0 u=u:=by simp[add,V0]
theorem Cone.comb {P:V→Prop} (h:Cone P) {u v w:V} {a b c:Int} (hu:P u) (hv:P v) (hw:P w) (ha:0≤a) (hb:0≤b) (hc:0≤c) (hz:Geo.add (Geo.add (Geo.smul a u) (Geo.smul b v)) (Geo.smul c w)=V0):a=0∧b=0∧c=0:=by
 have two:∀{u v:V} {a b:Int},P u→P v→0≤a→0≤b→(a=0∧b=0)∨P (Geo.add (Geo.smul a u) (Geo.smul b v)):=by
  intro u v a b hu hv ha hb;by_cases h1:a=0
  · by_cases h2:b=0
    · exact .inl ⟨h1,h2⟩
    · right;subst h1;rw[smul_zero,zero_add];exact h.smul _ _ (by omega) hv
  · by_cases h2:b=0
    · right;subst h2;rw[smul_zero,add_zero];exact h.smul _ _ (by omega) hu
    · right;exact h.add _ _ (h.smul _ _ (by omega) hu) (h.smul _ _ (by omega) hv)
 rcases two hu hv ha hb with ⟨h1,h2⟩|h1
 · refine⟨h1,h2,?_⟩
   by_cases h3:c=0
   · exact h3
   · exfalso
     subst h1 h2;rw[smul_zero,smul_zero,add_zero,zero_add] at hz;exact h.zero (hz▸h.smul _ _ (by omega) hw)
 · exfalso
   by_cases h3:c=0
   · subst h3
     rw[smul_zero,add_zero] at hz;exact h.zero (hz▸h1)
   · exact h.zero (hz▸h.add _ _ h1 (h.smul _ _ (by omega) hw))
theorem tT (f g h:V→Int) (hf:∀u v,f (add u v)=f u+f v) (hg:∀u v,g (add u v)=g u+g v) (hh:∀u v,h (add u v)=h u+h v)
 (hf':∀c u,f (smul c u)=c*f u) (hg':∀c u,g (smul c u)=c*g u) (hh':∀c u,h (smul c u)=c*h u):
 Cone fun v=>0<f v∨(f v=0∧(0<g v∨(g v=0∧0<h v))) where
 add u v hu hv:=by
  simp only[hf,hg,hh];omega
 smul c u hc hu:=by
  simp only[hf',hg',hh']
  rcases hu with hu|⟨h1,hu|⟨h2,hu⟩⟩
  · exact .inl (Int.mul_pos hc hu)
  · exact .inr ⟨by rw[h1];simp,.inl (Int.mul_pos hc hu)⟩
  · exact .inr ⟨by rw[h1];simp,.inr ⟨by rw[h2];simp,Int.mul_pos hc hu⟩⟩
 zero:=by
  have z:∀(f:V→Int),(∀c u,f (smul c u)=c*f u)→f V0=0:=fun f hf=>by
   have :=hf 0 V0;rw[smul_zero] at this;omega
  rw[z f hf',z g hg',z h hh'];omega
end Go.Geo
