/-
  Parts of the proof of statement 4: AvSoundC, AvSoundD
-/
import Derived.Test.YtjiignefffdelaaGreatDoorA03
import Derived.Laws.Strings
import Derived.Laws.StructEq
import Derived.ChangeKeysEq
set_option linter.unusedVariables false
set_option linter.unusedSimpArgs false
namespace Go.Av
open Go
section
theorem pL {els:List (List AV)} {sz:Nat} (hu:∀e∈els,e.length=sz):∀{i j:Nat},i<els.length→j<sz→els.flatten.getD (i*sz+j) undefA=(els.getD i []).getD j undefA:=by
 induction els with
 |nil=>intro i j hi;simp at hi
 |cons e r ih=>
  intro i j hi hj;have he:e.length=sz:=hu e (by simp)
  cases i with
  |zero=>
   simp only[getD_eq,List.flatten_cons,Nat.zero_mul,Nat.zero_add,List.getElem?_cons_zero,Option.getD_some];rw[List.getElem?_append_left (by omega)]
  |succ i=>
   have :=ih (fun e he=>hu e (by simp[he])) (i:=i) (j:=j) (by simpa using hi) hj;simp only[getD_eq,List.flatten_cons,List.getElem?_cons_succ] at this ⊢;rw[List.getElem?_append_right (by rw[he,Nat.succ_mul];omega)];rw[show(i+1)*sz+j -e.length=i*sz+j by rw[he,Nat.succ_mul];omega];exact this
theorem length_flatten {els:List (List AV)} {sz:Nat} (hu:∀e∈els,e.length=sz):els.flatten.length=els.length*sz:=by
 induction els with
 |nil=>simp
 |cons e r ih=>
  simp only[List.flatten_cons,List.length_append,List.length_cons,Nat.succ_mul];rw[ih (fun e he=>hu e (by simp[he])),hu e (by simp)];omega
section
variable {P:Program} {g:Genv} {o:Oper}
def arrayP (P:Program) (t:TypeId):Option (Nat×Nat×Bool):=
 match P.underlying t with
 |some (.array n e)=>match sizeP P e,isAggP P e with
  |some sz,some b=>some (n,sz,b)
  |_,_=>none
 |_=>none
def sliceP (P:Program) (t:TypeId):Option (TypeId×Nat):=
 match P.underlying t with
 |some (.slice e)=>match sizeP P e with
  |some sz=>some (e,sz)
  |none=>none
 |_=>none
theorem lE {t:TypeId} {n sz:Nat} {b:Bool} (h:arrayP P t=some (n,sz,b)):∃e,P.underlying t=some (.array n e)∧sizeP P e=some sz∧isAggP P e=some b:=by
 unfold arrayP at h;split at h
 · rename_i n' e hu
   split at h
   · rename_i sz' b' h1 h2
     simp only[Option.some.injEq,Prod.mk.injEq] at h;obtain⟨rfl,rfl,rfl⟩:=h;exact⟨e,hu,h1,h2⟩
   · cases h
 · cases h
theorem eX {t e:TypeId} {sz:Nat} (h:sliceP P t=some (e,sz)):P.underlying t=some (.slice e)∧sizeP P e=some sz:=by
 unfold sliceP at h;split at h
 · rename_i e' hu
   split at h
   · rename_i sz' h1
     simp only[Option.some.injEq,Prod.mk.injEq] at h;obtain⟨rfl,rfl⟩:=h;exact⟨hu,h1⟩
   · cases h
 · cases h
theorem aCt {t:TypeId} {x i:Operand} {x' i':Arg} {n sz:Nat} {b:Bool} (ho:o.op=.indexAddr t x i) (hx:argOf g x=some x') (hi:argOf g i=some i') (ht:arrayP P t=some (n,sz,b)):
 OpOK P g o (.iadr (some n) sz x' i'):=by
 intro s a G H w v H' hw hs h;have vx:=aV hw hs hx;have vi:=aV hw hs hi;obtain⟨e,hu,he,hb⟩:=lE ht;simp only[aop] at h;split at h
 · rename_i k hk
   obtain⟨kk,hka,hkv⟩:=gT hk vi
   have hrun:∀bl o',a.eval x=.pointer (some ⟨bl,o',none⟩)→k<n→(execOp a.eval o).run P w=.ok (.value (.pointer (some ⟨bl,o'+k*sz,none⟩))) w:=fun bl o' hxe hlt=>by
    have h0:(0:Int)≤(k:Int)∧(k:Int)<(n:Int):=by omega
    simp[execOp,ho,Instr.indexAt,hkv,asIntOf,run_underlying hu w,hxe,Instr.sureAddr,h0,bX he w,dD];intro hge;omega
   split at h
   · rename_i n' id off hn hid
     cases hn;rw[hid] at vx;split at h
     · rename_i hlt
       simp only[Option.some.injEq,Prod.mk.injEq] at h;obtain⟨rfl,rfl⟩:=h
       cases hxv:a.eval x with
       |pointer p=>
        rw[hxv] at vx
        cases vx with
        |ref _ _ l hl=>exact OpOK.pure' hw (hrun _ _ hxv hlt) (by rw[Nat.add_assoc];exact .ref id (off+k*sz) l hl)
       |_=>rw[hxv] at vx;cases vx
     · cases h
   · rename_i n' cs hn hid
     cases hn;rw[hid] at vx;split at h
     · rename_i hlt
       simp only[Option.some.injEq,Prod.mk.injEq] at h;obtain⟨rfl,rfl⟩:=h
       cases hxv:a.eval x with
       |pointer p=>
        rw[hxv] at vx
        cases vx with
        |pl _ bl o' us hh hv=>
         refine OpOK.pure' hw (hrun _ _ hxv hlt) (.pl _ bl (o'+k*sz) (fun j=>us (k*sz+j)) (fun j hj=>?_) (fun j hj=>?_))
         · simp at hj
           rw[Nat.add_assoc,mM];exact hh (k*sz+j) (by omega)
         · simp at hj
           rw[mM];exact hv (k*sz+j) (by omega)
       |_=>rw[hxv] at vx;cases vx
     · cases h
   · rename_i hn _;cases hn
   · rename_i hn _;cases hn
   · cases h
 · cases h
theorem aFs {t e:TypeId} {x i:Operand} {x' i':Arg} {sz:Nat} (ho:o.op=.indexAddr t x i) (hx:argOf g x=some x') (hi:argOf g i=some i') (ht:sliceP P t=some (e,sz)):
 OpOK P g o (.iadr none sz x' i'):=by
 intro s a G H w v H' hw hs h;have vx:=aV hw hs hx;have vi:=aV hw hs hi;obtain⟨hu,he⟩:=eX ht;simp only[aop] at h;split at h
 · rename_i k hk
   obtain⟨kk,hka,hkv⟩:=gT hk vi
   have hrun:∀bl o' n cap,a.eval x=.slice (some ⟨bl,o',none⟩) n cap→k<n→(execOp a.eval o).run P w=.ok (.value (.pointer (some ⟨bl,o'+k*sz,none⟩))) w:=fun bl o' n cap hxe hlt=>by
    have h0:(0:Int)≤(k:Int)∧(k:Int)<(n:Int):=by omega
    simp[execOp,ho,Instr.indexAt,hkv,asIntOf,run_underlying hu w,hxe,Instr.sureAddr,h0,bX he w,dD];intro hge;omega
   split at h
   · rename_i hn _;cases hn
   · rename_i hn _;cases hn
   · rename_i tag sz' els hn hid
     rw[hid] at vx;split at h
     · rename_i hc
       obtain⟨rfl,hlt⟩:=hc;simp only[Option.some.injEq,Prod.mk.injEq] at h;obtain⟨rfl,rfl⟩:=h
       cases hxv:a.eval x with
       |slice p n cap=>
        rw[hxv] at vx
        cases vx with
        |lstE=>exact absurd hlt (Nat.not_lt_zero _)
        |aT _ _ _ bl o' _ us hun hh hv htag=>
         have hel:(els.getD k []).length=sz':=by
          rw[getD_eq,List.getElem?_eq_getElem hlt];exact hun _ (List.getElem_mem hlt)
         have hfl:=length_flatten hun
         have hin:∀j,j<sz'→k*sz'+j<els.flatten.length:=fun j hj=>by
          rw[hfl]
          calc k*sz'+j<k*sz'+sz':=by omega
           _=(k+1)*sz':=by rw[Nat.succ_mul]
           _≤els.length*sz':=Nat.mul_le_mul_right _ hlt
         refine OpOK.pure' hw (hrun _ _ _ _ hxv hlt) (.pl _ bl (o'+k*sz') (fun j=>us (k*sz'+j)) (fun j hj=>?_) (fun j hj=>?_))
         · rw[hel] at hj
           rw[Nat.add_assoc,←pL hun hlt hj];exact hh _ (hin j hj)
         · rw[hel] at hj
           rw[←pL hun hlt hj];exact hv _ (hin j hj)
       |_=>rw[hxv] at vx;cases vx
     · cases h
   · rename_i id sz' off len cap hn hid
     rw[hid] at vx;split at h
     · rename_i hc
       obtain⟨rfl,hlt⟩:=hc;simp only[Option.some.injEq,Prod.mk.injEq] at h;obtain⟨rfl,rfl⟩:=h
       cases hxv:a.eval x with
       |slice p n cap=>
        rw[hxv] at vx
        cases vx with
        |sl _ _ _ _ _ _ l hl hlen hin hcap=>exact OpOK.pure' hw (hrun _ _ _ _ hxv hlt) (by rw[Nat.add_assoc];exact .ref id (off+k*sz') l hl)
       |_=>rw[hxv] at vx;cases vx
     · cases h
   · cases h
 · cases h
theorem aWv {t:TypeId} {x i:Operand} {x' i':Arg} {n sz:Nat} {b:Bool} (ho:o.op=.index t x i) (hx:argOf g x=some x') (hi:argOf g i=some i') (ht:arrayP P t=some (n,sz,b)):
 OpOK P g o (.idx n sz b x' i'):=by
 intro s a G H w v H' hw hs h;have vx:=aV hw hs hx;have vi:=aV hw hs hi;obtain⟨e,hu,he,hb⟩:=lE ht;simp only[aop] at h;split at h
 · rename_i k cs hk hid
   rw[hid] at vx;obtain⟨kk,hka,hkv⟩:=gT hk vi;obtain⟨us,hxv,hl,h1,hv⟩:=vx.iJ;split at h
   · rename_i hc
     obtain⟨hlt,hin⟩:=hc
     have hrun:∀u,(part e us.toArray (k*sz)).run P w=.ok u w→(execOp a.eval o).run P w=.ok (.value u) w:=fun u hr=>by
      have h0:(0:Int)≤(k:Int)∧(k:Int)<(n:Int):=by omega
      simp[execOp,ho,hxv,Instr.index,hkv,asIntOf,run_underlying hu w,h0,bX he w,hr];intro hge;omega
     split at h
     · rename_i hagg
       simp only[Option.some.injEq,Prod.mk.injEq] at h;obtain⟨rfl,rfl⟩:=h;obtain⟨u,hr,hvu⟩:=aDm (P:=P) he hb hl h1 hv hin (fun hf=>by rw[hagg] at hf;cases hf);rw[if_pos hagg] at hvu;exact OpOK.pure' hw (hrun u hr) hvu
     · rename_i hagg
       split at h
       · rename_i hn1
         simp only[Option.some.injEq,Prod.mk.injEq] at h;obtain⟨rfl,rfl⟩:=h;obtain⟨u,hr,hvu⟩:=aDm (P:=P) he hb hl h1 hv hin (fun _=>hn1);rw[if_neg hagg,hn1,Nat.mul_one] at hvu;rw[hn1,Nat.mul_one] at hr;exact OpOK.pure' hw (hrun u (by rw[hn1,Nat.mul_one];exact hr)) hvu
       · cases h
   · cases h
 · cases h
theorem aRz {t:TypeId} {x i:Operand} {x' i':Arg} (ho:o.op=.index t x i) (hx:argOf g x=some x') (hi:argOf g i=some i') (ht:P.underlying t=some .string):
 OpOK P g o (.idxs x' i'):=by
 intro s a G H w v H' hw hs h;have vx:=aV hw hs hx;have vi:=aV hw hs hi;simp only[aop] at h;split at h
 · rename_i k str hk hid
   rw[hid] at vx;obtain⟨kk,hka,hkv⟩:=gT hk vi;have hxv:=vx.cT;split at h
   · rename_i b hb
     simp only[Option.some.injEq,Prod.mk.injEq] at h;obtain⟨rfl,rfl⟩:=h;refine OpOK.pure' hw (u:=.int .u8 b.toNat) ?_ (.int _ _);have hlt:=(List.getElem?_eq_some_iff.1 hb).1
     have hge:(⟨str.toArray⟩:ByteArray)[k]?=some b:=by
      have hlt':k<(⟨str.toArray⟩:ByteArray).size:=by simpa [ByteArray.size] using hlt
      rw[getElem?_pos (⟨str.toArray⟩:ByteArray) k hlt'];have :=(List.getElem?_eq_some_iff.1 hb).2;simpa [ByteArray.getElem_eq_getElem_data] using this
     simp[execOp,ho,Instr.index,hkv,asIntOf,run_underlying ht w,hxv,hge]
   · cases h
 · cases h
theorem aSb {c:Call} {x:Operand} {x':Arg} {t:TypeId} (ho:o.op=.call c) (hc:c.callee=.builtin .len) (ha:c.args= #[x]) (hx:argOf g x=some x') (hat:c.argTypes[0]?=some t)
 (ht:P.underlying t=some .string):OpOK P g o (.lens x'):=by
 intro s a G H w v H' hw hs h;have vx:=aV hw hs hx;simp only[aop] at h;split at h
 · rename_i str hid
   rw[hid] at vx;simp only[Option.some.injEq,Prod.mk.injEq] at h;obtain⟨rfl,rfl⟩:=h;have hxv:=vx.cT;refine OpOK.pure' hw (u:=.int .i64 str.length) ?_ (.int _ _)
   have hsz:(⟨str.toArray⟩:ByteArray).size=str.length:=by simp[ByteArray.size]
   simp[execOp,ho,resolve,hc,ha,invoke,builtin,Builtin.len_,hat,run_underlying ht w,hxv,goInt];exact congrArg (fun n:Nat=>(n:Int)) hsz
 · cases h
theorem aSd {c:Call} {x y:Operand} {x' y':Arg} (ho:o.op=.call c) (hc:c.callee=.builtin .max) (ha:c.args= #[x,y]) (hx:argOf g x=some x') (hy:argOf g y=some y'):OpOK P g o (.maxi x' y'):=by
 intro s a G H w v H' hw hs h;have vx:=aV hw hs hx;have vy:=aV hw hs hy;simp only[aop] at h;split at h
 · rename_i k m k' n h1 h2
   rw[h1] at vx;rw[h2] at vy;simp only[Option.some.injEq,Prod.mk.injEq] at h;obtain⟨rfl,rfl⟩:=h;have hxv:=vx.cS;have hyv:=vy.cS;refine OpOK.pure' hw (u:=.int k (if n>m then n else m)) ?_ (.int _ _);simp[execOp,ho,resolve,hc,ha,invoke,builtin,Builtin.max_,Builtin.max2,hxv,hyv]
 · cases h
theorem aSe {c:Call} {x y:Operand} {x' y':Arg} (ho:o.op=.call c) (hc:c.callee=.builtin .min) (ha:c.args= #[x,y]) (hx:argOf g x=some x') (hy:argOf g y=some y'):OpOK P g o (.mini x' y'):=by
 intro s a G H w v H' hw hs h;have vx:=aV hw hs hx;have vy:=aV hw hs hy;simp only[aop] at h;split at h
 · rename_i k m k' n h1 h2
   rw[h1] at vx;rw[h2] at vy;simp only[Option.some.injEq,Prod.mk.injEq] at h;obtain⟨rfl,rfl⟩:=h;have hxv:=vx.cS;have hyv:=vy.cS;refine OpOK.pure' hw (u:=.int k (if n<m then n else m)) ?_ (.int _ _);simp[execOp,ho,resolve,hc,ha,invoke,builtin,Builtin.min_,Builtin.min2,hxv,hyv]
 · cases h
theorem aSa {c:Call} {x:Operand} {x':Arg} {t e:TypeId} (ho:o.op=.call c) (hc:c.callee=.builtin .len) (ha:c.args= #[x]) (hx:argOf g x=some x') (hat:c.argTypes[0]?=some t)
 (ht:P.underlying t=some (.slice e)):OpOK P g o (.lenl x'):=by
 intro s a G H w v H' hw hs h;have vx:=aV hw hs hx
 have hrun:∀p n cap,a.eval x=.slice p n cap→(execOp a.eval o).run P w=.ok (.value (.int .i64 n)) w:=fun p n cap hxv=>by
  simp[execOp,ho,resolve,hc,ha,invoke,builtin,Builtin.len_,hat,run_underlying ht w,hxv,goInt]
 simp only[aop] at h;split at h
 · rename_i hid
   rw[hid] at vx;simp only[Option.some.injEq,Prod.mk.injEq] at h;obtain⟨rfl,rfl⟩:=h;generalize hxv:a.eval x=u at vx;cases vx;exact OpOK.pure' hw (hrun _ _ _ hxv) (.int _ _)
 · rename_i tag sz els hid
   rw[hid] at vx;simp only[Option.some.injEq,Prod.mk.injEq] at h;obtain⟨rfl,rfl⟩:=h;generalize hxv:a.eval x=u at vx
   cases vx<;>
    exact OpOK.pure' hw (hrun _ _ _ hxv) (.int _ _)
 · rename_i id sz off len cap hid
   rw[hid] at vx;simp only[Option.some.injEq,Prod.mk.injEq] at h;obtain⟨rfl,rfl⟩:=h;generalize hxv:a.eval x=u at vx;cases vx;exact OpOK.pure' hw (hrun _ _ _ hxv) (.int _ _)
 · cases h
theorem iG {op:BinOp} {t:TypeId} {x y:Operand} {u v:Value} (w:World) (h:∀c,u≠ .agg c) (h':u≠ .nilIface):(eqGuard op t x y u v).run P w=.ok () w:=by
 unfold eqGuard
 cases u<;>first
  |exact absurd rfl h'
  |exact absurd rfl (h _)
  |(cases op<;>rfl)
theorem aRv {op:BinOp} {k k':IntKind} {m n:Int} {v:AV} {t:TypeId} (h:binI op k m k' n=some v) (w:World):
 ∃u,(Go.binOp op t (.int k m) (.int k' n)).run P w=.ok u w∧∀G,VR G w v u:=by
 have key:∀{k:IntKind} {z:Int},∀G,VR G w (.int k z) (.int k z):=fun G=>.int _ _;have keyb:∀{z:Bool},∀G,VR G w (.bool z) (.bool z):=fun G=>.bool _;cases op<;>simp only[binI] at h
 all_goals first
  |(split at h<;>first
     |(cases h;done)
     |(rename_i hk
       first
        |(subst hk
          first
           |(obtain rfl:=Option.some.inj h
             refine⟨_,?_,key⟩;simp[Go.binOp,Op.intArith]
             done)
           |(obtain rfl:=Option.some.inj h
             refine⟨_,?_,keyb⟩;simp[Go.binOp,Op.intCmp]
             done)
           |(simp only[bitsI] at h
             obtain rfl:=Option.some.inj h;refine⟨_,?_,key⟩;simp[Go.binOp,Op.intBits]
             done)
           |(split at h
             · cases h
             · rename_i h0
               obtain rfl:=Option.some.inj h;refine⟨_,?_,key⟩
               simp[Go.binOp,Op.intDiv,h0]))
        |(obtain rfl:=Option.some.inj h
          refine⟨_,?_,key⟩;simp[Go.binOp,Op.shift,hk]
          done)))
theorem aRw {op:BinOp} {x y:List UInt8} {v:AV} {t:TypeId} (h:binS op x y=some v) (w:World):
 ∃u,(Go.binOp op t (.string ⟨x.toArray⟩) (.string ⟨y.toArray⟩)).run P w=.ok u w∧∀G,VR G w v u:=by
 have keyb:∀{z:Bool},∀G,VR G w (.bool z) (.bool z):=fun G=>.bool _;have e1:(⟨x.toArray⟩:ByteArray).toList=x:=ByteArray.toList_mk x;have e2:(⟨y.toArray⟩:ByteArray).toList=y:=ByteArray.toList_mk y;cases op<;>simp only[binS] at h
 case add=>
  split at h
  · rename_i hle
    obtain rfl:=Option.some.inj h;refine⟨.string (⟨x.toArray⟩++⟨y.toArray⟩),?_,fun G=>?_⟩
    · have h1:(⟨x.toArray⟩:ByteArray).size=x.length:=by simp[ByteArray.size]
      have h2:(⟨y.toArray⟩:ByteArray).size=y.length:=by simp[ByteArray.size]
      have hm:¬(((⟨x.toArray⟩:ByteArray).size+(⟨y.toArray⟩:ByteArray).size:Nat):Int)>IntKind.i64.max:=by
       rw[h1,h2]
       have :IntKind.i64.max=9223372036854775807:=by decide
       omega
      simp only[Go.binOp,Op.stringOp,if_neg hm];rfl
    · have :(⟨x.toArray⟩++⟨y.toArray⟩:ByteArray)=⟨(x++y).toArray⟩:=by
       apply ByteArray.ext;simp
      rw[this];exact VR.aAt G w _
  · cases h
 all_goals first
  |(cases h;done)
  |(obtain rfl:=Option.some.inj h
    refine⟨_,?_,keyb⟩;simp only[Go.binOp,Op.stringOp,e1,e2]
    rfl)
theorem aOr {op:BinOp} {t t2:TypeId} {x y:Operand} {x' y':Arg} (ho:o.op=.binOp op t x y t2) (hx:argOf g x=some x') (hy:argOf g y=some y'):OpOK P g o (.bin op x' y'):=by
 intro s a G H w v H' hw hs h;have vx:=aV hw hs hx;have vy:=aV hw hs hy;simp only[aop] at h;split at h
 · rename_i k m k' n h1 h2
   rw[h1] at vx;rw[h2] at vy;have e1:=vx.cS;have e2:=vy.cS;simp only[Option.map_eq_some_iff,Prod.mk.injEq] at h;obtain⟨v',hv',rfl,rfl⟩:=h;obtain⟨u,hr,hv⟩:=aRv (P:=P) (t:=t) hv' w;refine OpOK.pure' hw (u:=u) ?_ (hv G);have hgd:=iG (P:=P) (op:=op) (t:=t) (x:=x) (y:=y) (u:=.int k m) (v:=.int k' n) w (fun c=>by simp) (by simp);simp[execOp,ho,e1,e2,hgd,hr]
 · rename_i m n h1 h2
   rw[h1] at vx;rw[h2] at vy;have e1:=vx.cT;have e2:=vy.cT;simp only[Option.map_eq_some_iff,Prod.mk.injEq] at h;obtain⟨v',hv',rfl,rfl⟩:=h;obtain⟨u,hr,hv⟩:=aRw (P:=P) (t:=t) hv' w;refine OpOK.pure' hw (u:=u) ?_ (hv G);have hgd:=iG (P:=P) (op:=op) (t:=t) (x:=x) (y:=y) (u:=.string ⟨m.toArray⟩) (v:=.string ⟨n.toArray⟩) w (fun c=>by simp) (by simp);simp[execOp,ho,e1,e2,hgd,hr]
 · cases h
theorem pH (d:Nat) {t:TypeId} (ht:P.underlying t=some .bool) (w:World) (m n:Bool):(Op.equalIn (d+1) t (.bool m) (.bool n)).run P w=.ok (m==n) w:=by
 rw[Op.equalIn];simp only[Sem.run_bind,run_underlying ht w,Result.andThen_ok];rfl
theorem aWs {op:BinOp} {neg:Bool} {t t2:TypeId} {x y:Operand} {x' y':Arg} (ho:o.op=.binOp op t x y t2) (hop:op=if neg then .neq else .eql) (ht:P.underlying t=some .bool)
 (hx:argOf g x=some x') (hy:argOf g y=some y'):OpOK P g o (.eqb neg x' y'):=by
 intro s a G H w v H' hw hs h;have vx:=aV hw hs hx;have vy:=aV hw hs hy;simp only[aop] at h;split at h
 · rename_i m n h1 h2
   rw[h1] at vx;rw[h2] at vy;have e1:=vx.dE;have e2:=vy.dE;simp only[Option.some.injEq,Prod.mk.injEq] at h;obtain⟨rfl,rfl⟩:=h;refine OpOK.pure' hw (u:=.bool (if neg then !(m==n) else(m==n))) ?_ (.bool _);have hgd:=iG (P:=P) (op:=op) (t:=t) (x:=x) (y:=y) (u:=.bool m) (v:=.bool n) w (fun c=>by simp) (by simp)
   have heq:(Op.equal t (.bool m) (.bool n)).run P w=.ok (m==n) w:=by
    exact pH 9999 ht w m n
   subst hop;cases neg<;>simp only[Bool.false_eq_true,if_false,if_true] at ho hgd<;>simp[execOp,ho,e1,e2,hgd,Go.binOp,heq]
 · cases h
theorem bCn {op:UnOp} {t:TypeId} {x:Operand} {x':Arg} (ho:o.op=.unOp op t x) (hx:argOf g x=some x'):OpOK P g o (.un op x'):=by
 intro s a G H w v H' hw hs h;have vx:=aV hw hs hx;simp only[aop,Option.map_eq_some_iff,Prod.mk.injEq] at h;obtain⟨v',hv',rfl,rfl⟩:=h;unfold unA at hv';split at hv'
 · rename_i k n h1
   rw[h1] at vx;have e1:=vx.cS;split at hv'
   · obtain rfl:=Option.some.inj hv'
     exact OpOK.pure' hw (u:=.int k (k.wrap (0 -n))) (by simp[execOp,ho,e1,Op.unary,Op.intArith]) (.int _ _)
   · simp only[bitsI] at hv'
     obtain rfl:=Option.some.inj hv';exact OpOK.pure' hw (u:=.int k _) (by simp[execOp,ho,e1,Op.unary,Op.intBits]) (.int _ _)
   · cases hv'
 · rename_i b h1
   rw[h1] at vx;have e1:=vx.dE;split at hv'
   · obtain rfl:=Option.some.inj hv'
     exact OpOK.pure' hw (u:=.bool !b) (by simp[execOp,ho,e1,Op.unary]) (.bool _)
   · cases hv'
 · cases hv'
theorem aOs {src dst:TypeId} {k:IntKind} {d:TypeDesc} {x:Operand} {x':Arg} (ho:o.op=.convert src dst x) (hx:argOf g x=some x') (hs':P.underlying src=some d)
 (hd:P.underlying dst=some (.int k)):OpOK P g o (.convi k x'):=by
 intro s a G H w v H' hw hs h;have vx:=aV hw hs hx;simp only[aop] at h;split at h
 · rename_i k' n h1
   rw[h1] at vx;have e1:=vx.cS;simp only[Option.some.injEq,Prod.mk.injEq] at h;obtain⟨rfl,rfl⟩:=h;refine OpOK.pure' hw (u:=.int k (k.wrap n)) ?_ (.int _ _);simp only[execOp,ho,e1,Go.convert,Sem.run_bind,run_underlying hs' w,run_underlying hd w,Result.andThen_ok,Conv.intToInt];rfl
 · cases h
theorem aSk {t ti:TypeId} {ok:Bool} {d:TypeDesc} {z:AV} {zv:Value} {x:Operand} {x':Arg} (ho:o.op=.typeAssert x ti t ok) (hx:argOf g x=some x')
 (hd:P.underlying t=some d) (hni:∀ms,d≠ .interface ms) (hz:zeroP P t=some zv) (hzc:ofConst zv=some z):OpOK P g o (.tass t ok z x'):=by
 intro s a G H w v H' hw hs h;have vx:=aV hw hs hx;have hzero:=eF hz w;have hzr:=oE hzc G w
 have two:∀{p q:AV} {u1 u2:Value},VR G w p u1→VR G w q u2→VR G w (.tup [p,q]) (.tuple #[u1,u2]):=fun h1 h2=>
  .tup [_,_] [_,_] rfl (h1.cons (h2.cons (VRs.nil G w))).2
 have hh:∀(y:Value) (r:Value),(Instr.typeAssert y ti t ok).run P w=.ok r w→a.eval x=y→(execOp a.eval o).run P w=.ok (.value r) w:=fun y r hr he=>by
  simp[execOp,ho,he,hr]
 have hd':∀(ms:Array (String×TypeId)),d=TypeDesc.interface ms→False:=fun ms he=>hni ms he;simp only[aop] at h;split at h
 · rename_i t' y h1
   rw[h1] at vx;generalize hxv:a.eval x=u at vx
   cases vx with
   |iface _ _ yv hy=>
    split at h
    · rename_i htt
      subst htt;simp only[Option.some.injEq,Prod.mk.injEq] at h;obtain⟨rfl,rfl⟩:=h;refine OpOK.pure' hw (u:=if ok then .tuple #[yv,.bool true] else yv) (hh _ _ ?_ hxv) (by cases ok<;>simp <;>first|exact hy|exact two hy (.bool true));unfold Instr.typeAssert;simp only[Sem.run_bind,run_underlying hd w,Result.andThen_ok]
      cases d<;>first|exact absurd rfl (hni _)|simp
    · rename_i htt
      split at h
      · rename_i hok
        simp only[Option.some.injEq,Prod.mk.injEq] at h;obtain⟨rfl,rfl⟩:=h;refine OpOK.pure' hw (u:=.tuple #[zv,.bool false]) (hh _ _ ?_ hxv) (two hzr (.bool false));unfold Instr.typeAssert;simp only[Sem.run_bind,run_underlying hd w,Result.andThen_ok]
        cases d<;>first|exact absurd rfl (hni _)|simp[htt,hok,hzero]
      · cases h
 · rename_i h1
   rw[h1] at vx;generalize hxv:a.eval x=u at vx;cases vx;split at h
   · rename_i hok
     simp only[Option.some.injEq,Prod.mk.injEq] at h;obtain⟨rfl,rfl⟩:=h;refine OpOK.pure' hw (u:=.tuple #[zv,.bool false]) (hh _ _ ?_ hxv) (two hzr (.bool false));unfold Instr.typeAssert;simp only[Sem.run_bind,run_underlying hd w,Result.andThen_ok]
     cases d<;>first|exact absurd rfl (hni _)|simp[hok,hzero]
   · cases h
 · cases h
end
end
section
def shapeFs (P:Program) (sh:TypeId→Option (List Sk)):Nat→List Field→Option (List Sk)
 |_,[]=>some []
 |off,f::fs=>
  if f.name≠ "_" ∧f.offset=off then
   match sh f.type with
   |some k=>if sizeP P f.type=some k.length then(shapeFs P sh (off+k.length) fs).map (k++ ·) else none
   |none=>none
  else none
def shapeP (P:Program):Nat→TypeId→Option (List Sk)
 |0,_=>none
 |d+1,t=>
  match P.underlying t with
  |some .bool=>some [.b]
  |some (.int _)=>some [.i]
  |some .string=>some [.s]
  |some (.struct fs)=>if P.stoodInHeld t then none else shapeFs P (shapeP P d) 0 fs.toList
  |some (.array n e)=>
   match shapeP P d e with
   |some k=>if sizeP P e=some k.length then some (List.replicate n k).flatten else none
   |none=>none
  |_=>none
theorem iV:∀(k1 k2:List Sk) (xs ys:List AV) (r:Bool),eqFlat (k1++k2) xs ys=some r→
 ∃r1 r2,eqFlat k1 (xs.take k1.length) (ys.take k1.length)=some r1∧eqFlat k2 (xs.drop k1.length) (ys.drop k1.length)=some r2∧r=(r1&&r2)
 |[],k2,xs,ys,r,h=>⟨true,r,rfl,by simpa using h,by simp⟩
 |k::k1,k2,xs,ys,r,h=>by
  have step:∀{x y:AV} {xs' ys':List AV} {c:Bool},xs=x::xs'→ys=y::ys'→(eqFlat (k1++k2) xs' ys').map (c&& ·)=some r→
   (∀l m,eqFlat (k::k1) (x::l) (y::m)=(eqFlat k1 l m).map (c&& ·))→
   ∃r1 r2,eqFlat (k::k1) (xs.take (k::k1).length) (ys.take (k::k1).length)=some r1∧eqFlat k2 (xs.drop (k::k1).length) (ys.drop (k::k1).length)=some r2∧r=(r1&&r2):=by
   intro x y xs' ys' c hx hy hm hc;simp only[Option.map_eq_some_iff] at hm;obtain⟨r',hr',rfl⟩:=hm;obtain⟨r1,r2,h1,h2,h3⟩:=iV k1 k2 xs' ys' r' hr';subst hx hy;refine⟨c&&r1,r2,?_,by simpa using h2,by rw[h3,Bool.and_assoc]⟩;simp only[List.length_cons,List.take_succ_cons];rw[hc,h1];rfl
  cases k<;>cases xs with
  |nil=>simp[eqFlat] at h
  |cons x xs'=>
   cases ys with
   |nil=>cases x<;>simp[eqFlat] at h
   |cons y ys'=>
    cases x<;>cases y<;>simp only[List.cons_append,eqFlat] at h<;>first
     |(cases h;done)
     |exact step rfl rfl h (fun l m=>rfl)
     |(split at h
       · rename_i hjk
         subst hjk;exact step rfl rfl h (fun l m=>by simp[eqFlat])
       · cases h)
def valOf (agg:Bool) (us:List Value):Value:=if agg then .agg us.toArray else us.getD 0 undef
theorem eE {P:Program} {t:TypeId} {n:Nat} {b:Bool} (hn:sizeP P t=some n) (hb:isAggP P t=some b) (w:World) {us:List Value} {off:Nat} (hin:off+n≤us.length) (hn1:b=false→n=1):
 (part t us.toArray off).run P w=.ok (valOf b ((us.drop off).take n)) w:=by
 cases b with
 |true=>
  simp only[part,Sem.run_bind,fQ hb w,Result.andThen_ok,if_true,bX hn w,Sem.run_pure,valOf];congr 2;apply Array.ext';simp[List.extract_eq_take_drop]
 |false=>
  have :=hn1 rfl;simp only[part,Sem.run_bind,fQ hb w,Result.andThen_ok,Bool.false_eq_true,if_false,List.getElem?_toArray,fN us undef off (by omega),valOf];rw[bY _ _ _ _ _ (by omega)];rfl
theorem VRs.take_drop {G:Gh} {w:World} {xs:List AV} {us:List Value} (h:VRs G w xs us) (off n:Nat) (hin:off+n≤xs.length):VRs G w ((xs.drop off).take n) ((us.drop off).take n):=by
 have hl:=h.1;refine⟨by simp;omega,fun j hj=>?_⟩;simp at hj;rw[bY _ _ _ _ _ (by omega),bY _ _ _ _ _ (by omega)];exact h.2 _ (by omega)
theorem nD:∀{ks:List Sk} {xs ys:List AV} {r:Bool},eqFlat ks xs ys=some r→xs.length=ks.length∧ys.length=ks.length
 |[],[],[],_,_=>⟨rfl,rfl⟩
 |[],_::_,ys,r,h=>by cases ys<;>simp[eqFlat] at h
 |[],[],_::_,r,h=>by simp[eqFlat] at h
 |k::ks,[],ys,r,h=>by cases k<;>simp[eqFlat] at h
 |k::ks,x::xs,[],r,h=>by cases k<;>cases x<;>simp[eqFlat] at h
 |k::ks,x::xs,y::ys,r,h=>by
  have :∃r',eqFlat ks xs ys=some r':=by
   cases k<;>cases x<;>cases y<;>simp only[eqFlat] at h<;>first
    |(cases h;done)
    |(simp only[Option.map_eq_some_iff] at h;obtain⟨r',h,_⟩:=h;exact⟨r',h⟩)
    |(split at h
      · simp only[Option.map_eq_some_iff] at h;obtain⟨r',h,_⟩:=h;exact⟨r',h⟩
      · cases h)
  obtain⟨r',h'⟩:=this;have :=nD h';simp[this.1,this.2]
theorem kR {P:Program} {d:Nat} {t:TypeId} {ks:List Sk} (h:shapeP P d t=some ks):∃b,isAggP P t=some b∧(b=false→ks.length=1):=by
 cases d with
 |zero=>cases h
 |succ d=>
  simp only[shapeP] at h;unfold isAggP
  split at h<;>rename_i hu<;>first
   |(cases h;done)
   |(obtain rfl:=Option.some.inj h;exact⟨false,by rw[hu],fun _=>rfl⟩)
   |exact⟨true,by rw[hu],fun hf=>by cases hf⟩
theorem wG {P:Program} {e:TypeId} {n:Nat} (h:sizeP P e=some n):P.cellsOf e=n∧∃i,P.info? e=some i:=by
 simp only[sizeP,Option.map_eq_some_iff] at h;obtain⟨i,hi,rfl⟩:=h;exact⟨by simp[Program.cellsOf,hi],i,hi⟩
theorem aBy {P:Program}:∀(f:Nat) (t:TypeId) (ks:List Sk),shapeP P f t=some ks→∀(b:Bool),isAggP P t=some b→∀(d:Nat) (G:Gh) (w:World) (xs ys:List AV) (us vs:List Value) (r:Bool),
 eqFlat ks xs ys=some r→VRs G w xs us→VRs G w ys vs→(Op.equalIn (d+f) t (valOf b us) (valOf b vs)).run P w=.ok r w:=by
 intro f
 induction f with
 |zero=>intro t ks h;cases h
 |succ f ih=>
  intro t ks h b hb d G w xs ys us vs r hr hx hy;have hlen:=nD hr
  have scalar:∀{k:Sk},ks=[k]→∃x y,xs=[x]∧ys=[y]∧VR G w x (us.getD 0 undef)∧VR G w y (vs.getD 0 undef):=fun {k} hk=>by
   subst hk
   match xs,ys,hlen with
   |[x],[y],_=>exact⟨x,y,rfl,rfl,by simpa using hx.2 0 (by simp),by simpa using hy.2 0 (by simp)⟩
  rw[show d+(f+1)=(d+f)+1 from rfl];simp only[shapeP] at h;split at h
  · rename_i hu
    obtain rfl:=Option.some.inj h
    have hbf:b=false:=by simp only[isAggP,hu,Option.some.injEq] at hb;exact hb.symm
    subst hbf;obtain⟨x,y,rfl,rfl,h1,h2⟩:=scalar rfl;simp only[valOf,Bool.false_eq_true,if_false]
    cases x<;>cases y<;>simp only[eqFlat] at hr<;>first|(cases hr;done)|skip
    rename_i p q;rw[h1.dE,h2.dE,pH _ hu w];simp at hr;rw[←hr]
  · rename_i k hu
    obtain rfl:=Option.some.inj h
    have hbf:b=false:=by simp only[isAggP,hu,Option.some.injEq] at hb;exact hb.symm
    subst hbf;obtain⟨x,y,rfl,rfl,h1,h2⟩:=scalar rfl;simp only[valOf,Bool.false_eq_true,if_false]
    cases x<;>cases y<;>simp only[eqFlat] at hr<;>first|(cases hr;done)|skip
    rename_i j p j' q;split at hr
    · rename_i hj
      subst hj;rw[h1.cS,h2.cS,run_equalIn_int w _ t j k p q hu];simp at hr;rw[←hr]
    · cases hr
  · rename_i hu
    obtain rfl:=Option.some.inj h
    have hbf:b=false:=by simp only[isAggP,hu,Option.some.injEq] at hb;exact hb.symm
    subst hbf;obtain⟨x,y,rfl,rfl,h1,h2⟩:=scalar rfl;simp only[valOf,Bool.false_eq_true,if_false]
    cases x<;>cases y<;>simp only[eqFlat] at hr<;>first|(cases hr;done)|skip
    rename_i p q;rw[h1.cT,h2.cT,run_equalIn_string w _ t _ _ hu,ByteArray.toList_mk,ByteArray.toList_mk];simp at hr;rw[←hr]
  · rename_i fs hu
    split at h
    · cases h
    · rename_i hst
      have hbt:b=true:=by simp only[isAggP,hu,Option.some.injEq] at hb;exact hb.symm
      subst hbt;simp only[valOf,if_true]
      have hfo:P.fieldsOf t=fs:=by simp[Program.fieldsOf,hu]
      rw[run_equalIn_struct w _ t _ _ (by rw[hfo];exact hu) (by simpa using hst),hfo];have hux:=hx.1;have huy:=hy.1
      have key:∀(l:List Field) (off:Nat) (ks':List Sk),shapeFs P (shapeP P f) off l=some ks'→off+ks'.length≤xs.length→off+ks'.length≤ys.length→∀r,eqFlat ks' ((xs.drop off).take ks'.length) ((ys.drop off).take ks'.length)=some r→
       (Op.eqFields (d+f) us.toArray vs.toArray l).run P w=.ok r w:=by
       intro l
       induction l with
       |nil=>
        intro off ks' hs _ _ r hr;obtain rfl:=Option.some.inj hs;simp[eqFlat] at hr;subst hr;simp[Op.eqFields]
       |cons fd l ihl=>
        intro off ks' hs hi1 hi2 r hr;simp only[shapeFs] at hs;split at hs
        · rename_i hc
          obtain⟨hc1,hc2⟩:=hc;split at hs
          · rename_i k hk
            split at hs
            · rename_i hsz
              simp only[Option.map_eq_some_iff] at hs;obtain⟨ks2,hs2,rfl⟩:=hs;simp only[List.length_append] at hi1 hi2 hr;obtain⟨r1,r2,e1,e2,rfl⟩:=iV _ _ _ _ _ hr;obtain⟨bf,hbf,hbf1⟩:=kR hk
              have t1:∀(z:List AV),off+(k.length+ks2.length)≤z.length→List.take k.length (List.take (k.length+ks2.length) (z.drop off))=(z.drop off).take k.length:=fun z hz=>by
               rw[List.take_take];congr 1;omega
              have t2:∀(z:List AV),off+(k.length+ks2.length)≤z.length→List.drop k.length (List.take (k.length+ks2.length) (z.drop off))=(z.drop (off+k.length)).take ks2.length:=fun z hz=>by
               rw[List.drop_take,List.drop_drop];congr 1;omega
              rw[t1 _ hi1,t1 _ hi2] at e1;rw[t2 _ hi1,t2 _ hi2] at e2;have p1:=eE hsz hbf w (us:=us) (off:=fd.offset) (by omega) hbf1;have p2:=eE hsz hbf w (us:=vs) (off:=fd.offset) (by omega) hbf1;have p3:=ih fd.type k hk bf hbf d G w _ _ _ _ r1 e1 (hx.take_drop off k.length (by omega)) (hy.take_drop off k.length (by omega));rw[←hc2] at p3;simp only[Op.eqFields,if_pos hc1,Sem.run_bind,p1,p2,p3,Result.andThen_ok]
              cases r1 with
              |false=>simp
              |true=>
               simp only[Bool.not_true,Bool.false_eq_true,if_false,Bool.true_and];exact ihl (off+k.length) ks2 hs2 (by omega) (by omega) r2 e2
            · cases hs
          · cases hs
        · cases hs
      have :=key fs.toList 0 ks h (by omega) (by omega) r (by
       simp only[List.drop_zero];rw[List.take_of_length_le (by omega),List.take_of_length_le (by omega)]
       exact hr)
      exact this
  · rename_i n e hu
    have hbt:b=true:=by simp only[isAggP,hu,Option.some.injEq] at hb;exact hb.symm
    subst hbt;simp only[valOf,if_true];split at h
    · rename_i k hk
      split at h
      · rename_i hsz
        obtain rfl:=Option.some.inj h;obtain⟨hcell,i,hi⟩:=wG hsz;rw[run_equalIn_array w (d+f) _ _ hu hi,hcell];obtain⟨bf,hbf,hbf1⟩:=kR hk;have hux:=hx.1;have huy:=hy.1
        have hlk:∀m,((List.replicate m k).flatten).length=m*k.length:=fun m=>by simp
        have key:∀(m j:Nat),(j+m)*k.length≤xs.length→(j+m)*k.length≤ys.length→∀r,eqFlat (List.replicate m k).flatten ((xs.drop (j*k.length)).take (m*k.length)) ((ys.drop (j*k.length)).take (m*k.length))=some r→
         (Op.eqItems (d+f) e k.length us.toArray vs.toArray (List.range' j m)).run P w=.ok r w:=by
         intro m
         induction m with
         |zero=>
          intro j _ _ r hr;simp[eqFlat] at hr;subst hr;simp[Op.eqItems]
         |succ m ihm=>
          intro j hi1 hi2 r hr
          have hm1:(m+1)*k.length=k.length+m*k.length:=by rw[Nat.succ_mul];omega
          have hj1:(j+(m+1))*k.length=j*k.length+(k.length+m*k.length):=by rw[Nat.add_mul,hm1]
          have hj2:(j+1)*k.length=j*k.length+k.length:=by rw[Nat.succ_mul]
          rw[hj1] at hi1 hi2;rw[hm1] at hr;rw[List.replicate_succ,List.flatten_cons] at hr;obtain⟨r1,r2,e1,e2,rfl⟩:=iV _ _ _ _ _ hr
          have t1:∀(z:List AV),List.take k.length (List.take (k.length+m*k.length) (z.drop (j*k.length)))=(z.drop (j*k.length)).take k.length:=fun z=>by
           rw[List.take_take];congr 1;omega
          have t2:∀(z:List AV),List.drop k.length (List.take (k.length+m*k.length) (z.drop (j*k.length)))=(z.drop ((j+1)*k.length)).take (m*k.length):=fun z=>by
           rw[List.drop_take,List.drop_drop,hj2];congr 1;omega
          rw[t1,t1] at e1;rw[t2,t2] at e2;have p1:=eE hsz hbf w (us:=us) (off:=j*k.length) (by omega) hbf1;have p2:=eE hsz hbf w (us:=vs) (off:=j*k.length) (by omega) hbf1;have p3:=ih e k hk bf hbf d G w _ _ _ _ r1 e1 (hx.take_drop (j*k.length) k.length (by omega)) (hy.take_drop (j*k.length) k.length (by omega));simp only[List.range'_succ,Op.eqItems,Sem.run_bind,p1,p2,p3,Result.andThen_ok]
          cases r1 with
          |false=>simp
          |true=>
           simp only[Bool.not_true,Bool.false_eq_true,if_false,Bool.true_and]
           have hj3:(j+1+m)*k.length=j*k.length+(k.length+m*k.length):=by rw[Nat.add_mul,hj2];omega
           exact ihm (j+1) (by rw[hj3];exact hi1) (by rw[hj3];exact hi2) r2 e2
        have :=key n 0 (by rw[Nat.zero_add];rw[hlk] at hlen;omega) (by rw[Nat.zero_add];rw[hlk] at hlen;omega) r (by
         rw[hlk] at hlen;simp only[Nat.zero_mul,List.drop_zero];rw[List.take_of_length_le (by omega),List.take_of_length_le (by omega)]
         exact hr)
        rw[List.range_eq_range'];exact this
      · cases h
    · cases h
  · cases h
section
variable {P:Program} {g:Genv} {o:Oper}
theorem aWt {op:BinOp} {neg:Bool} {t t2:TypeId} {f:Nat} {ks:List Sk} {x y:Operand} {x' y':Arg} (ho:o.op=.binOp op t x y t2) (hop:op=if neg then .neq else .eql) (hf:f≤9999)
 (hk:shapeP P f t=some ks) (hb:isAggP P t=some true) (hg:P.eqGuardType P.depth t=false) (hx:argOf g x=some x') (hy:argOf g y=some y'):OpOK P g o (.eqf neg ks x' y'):=by
 intro s a G H w v H' hw hs h;have vx:=aV hw hs hx;have vy:=aV hw hs hy;simp only[aop] at h;split at h
 · rename_i xs ys h1 h2
   rw[h1] at vx;rw[h2] at vy;obtain⟨us,e1,l1,_,v1⟩:=vx.iJ;obtain⟨vs,e2,l2,_,v2⟩:=vy.iJ;simp only[Option.map_eq_some_iff,Prod.mk.injEq] at h;obtain⟨r,hr,rfl,rfl⟩:=h;refine OpOK.pure' hw (u:=.bool (if neg then !r else r)) ?_ (.bool _);have hgd:=run_eqGuard_agg (P:=P) w op t x y us.toArray vs.toArray hg;have heq:=aBy f t ks hk true hb (10000 -f) G w xs ys us vs r hr ⟨l1,v1⟩ ⟨l2,v2⟩;rw[show 10000 -f+f=10000 by omega] at heq;simp only[valOf,if_true] at heq;have heq':(Op.equal t (.agg us.toArray) (.agg vs.toArray)).run P w=.ok r w:=heq;subst hop;cases neg<;>simp only[Bool.false_eq_true,if_false,if_true] at ho hgd<;>simp[execOp,ho,e1,e2,hgd,Go.binOp,heq']
 · cases h
def nkP (P:Program) (t:TypeId):Option Nk:=
 match P.underlying t with
 |some (.pointer _)=>some .ptr
 |some (.interface _)=>some .ifc
 |some (.slice _)=>some .sli
 |some (.map _ _)=>some .mp
 |some (.func _ _ _)=>some .fn
 |_=>none
def isNilV:Value→Bool
 |.pointer none|.nilIface|.slice none _ _|.map none|.nilFunc=>true
 |_=>false
theorem aCm {G:Gh} {w:World} {k:Nk} {a:AV} {u:Value} {b:Bool} (h:isNilA k a=some b) (hv:VR G w a u):isNilV u=b:=by
 cases hv<;>simp only[isNilA] at h<;>first
  |(cases h;done)
  |(split at h
    · obtain rfl:=Option.some.inj h;rfl
    · cases h)
def fitsNk:Nk→Value→Prop
 |.ptr,.pointer _=>True
 |.ifc,.nilIface|.ifc,.iface _ _=>True
 |.sli,.slice _ _ _=>True
 |.mp,.map _=>True
 |.fn,.nilFunc|.fn,.func _ _ _=>True
 |_,_=>False
theorem rY {G:Gh} {w:World} {k:Nk} {a:AV} {u:Value} {b:Bool} (h:isNilA k a=some b) (hv:VR G w a u):fitsNk k u:=by
 cases hv<;>simp only[isNilA] at h<;>first
  |(cases h;done)
  |(split at h
    · rename_i hk;subst hk;trivial
    · cases h)
theorem sP (d:Nat) {t:TypeId} {k:Nk} (hk:nkP P t=some k) (w:World) {u v:Value} (hu:fitsNk k u) (hv:fitsNk k v) (h:(isNilV u||isNilV v)=true):
 (Op.equalIn (d+1) t u v).run P w=.ok (isNilV u&&isNilV v) w:=by
 unfold nkP at hk;rw[Op.equalIn]
 split at hk<;>rename_i hun<;>first
  |(cases hk;done)
  |(obtain rfl:=Option.some.inj hk
    simp only[Sem.run_bind,run_underlying hun w,Result.andThen_ok]
    cases u<;>first|exact hu.elim|skip
    all_goals (cases v<;>first|exact hv.elim|skip)
    all_goals first
     |rfl
     |(rename_i p q;cases p<;>cases q<;>first|rfl|(simp[isNilV] at h;done))
     |(rename_i p _ _ q _ _;cases p<;>cases q<;>first|rfl|(simp[isNilV] at h;done))
     |(simp[isNilV] at h;done))
theorem aWu {op:BinOp} {neg:Bool} {t t2:TypeId} {k:Nk} {lit:Bool} {x y:Operand} {x' y':Arg} (ho:o.op=.binOp op t x y t2) (hop:op=if neg then .neq else .eql)
 (hk:nkP P t=some k) (hlit:lit=true→(∃c,x=.const c)∨∃c,y=.const c) (hx:argOf g x=some x') (hy:argOf g y=some y'):OpOK P g o (.eqn neg k lit x' y'):=by
 intro s a G H w v H' hw hs h;have vx:=aV hw hs hx;have vy:=aV hw hs hy;simp only[aop] at h;split at h
 · rename_i p q h1 h2
   have f1:=rY h1 vx;have f2:=rY h2 vy;have n1:=aCm h1 vx;have n2:=aCm h2 vy;split at h
   · rename_i hc
     simp only[Option.some.injEq,Prod.mk.injEq] at h;obtain⟨rfl,rfl⟩:=h;simp only[Bool.and_eq_true] at hc;obtain⟨hc1,hc2⟩:=hc;refine OpOK.pure' hw (u:=.bool (if neg then !(p&&q) else(p&&q))) ?_ (.bool _);generalize e1:a.eval x=u1 at *;generalize e2:a.eval y=u2 at *
     have heq:(Op.equal t u1 u2).run P w=.ok (p&&q) w:=by
      have :=sP (P:=P) 9999 hk w f1 f2 (by rw[n1,n2];exact hc1);rw[n1,n2] at this;exact this
     have hgd:(eqGuard op t x y u1 u2).run P w=.ok () w:=by
      unfold eqGuard;by_cases hboth:u1=.nilIface∧u2=.nilIface
      · obtain⟨rfl,rfl⟩:=hboth
        have hki:k=.ifc:=by cases k<;>first|rfl|exact f1.elim
        have hp:p=true:=n1.symm;have hq:q=true:=n2.symm;subst hki hp hq;simp at hc2
        rcases hlit hc2 with ⟨c,rfl⟩|⟨c,rfl⟩
        · cases op<;>simp
        · cases op<;>simp
      · cases u1<;>first
         |(cases k<;>exact f1.elim)
         |(cases op<;>rfl)
         |(cases u2<;>first|exact absurd ⟨rfl,rfl⟩ hboth|(cases op<;>rfl))
     have hbin:(Go.binOp op t u1 u2).run P w=.ok (.bool (if neg then !(p&&q) else(p&&q))) w:=by
      subst hop
      cases neg with
      |false=>
       simp only[Bool.false_eq_true,if_false]
       cases u1<;>first
        |(cases k<;>exact f1.elim)
        |(cases u2<;>first
           |(cases k<;>first|exact f1.elim|exact f2.elim)
           |simp[Go.binOp,heq])
      |true=>
       simp only[if_true]
       cases u1<;>first
        |(cases k<;>exact f1.elim)
        |(cases u2<;>first
           |(cases k<;>first|exact f1.elim|exact f2.elim)
           |simp[Go.binOp,heq])
     simp only[execOp,ho,e1,e2,Sem.run_bind,hgd,hbin,Result.andThen_ok];rfl
   · cases h
 · cases h
end
end
end Go.Av
