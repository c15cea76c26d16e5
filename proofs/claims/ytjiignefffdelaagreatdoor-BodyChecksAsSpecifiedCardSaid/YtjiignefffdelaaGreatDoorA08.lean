/-
  Parts of the proof of statement 4: AvSoundH
-/
import Derived.Test.YtjiignefffdelaaGreatDoorA07
set_option linter.unusedVariables false
set_option linter.unusedSimpArgs false
namespace Go.Av
open Go
section
section
variable {P:Program} {g:Genv} {o:Oper}
theorem aCz (h:Array Go.Obj) (x:Go.Obj) (f:Go.Obj→Go.Obj):(h.push x).modify h.size f=h.push (f x):=by
 apply Array.ext
 · simp
 · intro i h1 h2
   simp only[Array.size_push] at h2;rw[Array.getElem_modify];by_cases hi:i=h.size
   · subst hi
     simp
   · have :i<h.size:=by omega
     rw[if_neg (Ne.symm hi)];simp[Array.getElem_push,this]
theorem xM {src dst e:TypeId} {x:Operand} {x':Arg} (ho:o.op=.convert src dst x) (hx:argOf g x=some x') (hsrc:P.underlying src=some .string) (hdst:P.underlying dst=some (.slice e))
 (he:P.underlying e=some (.int .u8)):FopOK P g o (.str2b x'):=by
 intro s a G H H' w ob val id0 hw hs h hid hget hnx hlt;have vx:=aV hw hs hx;simp only[fop] at h;split at h
 · rename_i str hid0
   rw[hid0] at vx;have hxv:=vx.cT;simp only[Option.some.injEq,Prod.mk.injEq] at h;obtain⟨rfl,rfl⟩:=h
   have hsz:(⟨str.toArray⟩:ByteArray).size=str.length:=by simp[ByteArray.size]
   obtain⟨cap,hc1,hc2⟩:=mA (P:=P) (need:=str.length) (old:=0) (e:=e) w
   let vs:List Value:=str.map fun b=>.int .u8 b.toNat
   let rest:List Value:=List.replicate (cap -str.length) (.int .u8 0);let w':World:={w with heap:=w.heap.push (.cells (vs++rest).toArray e (cap,cap+1)),drawn:=w.drawn+1}
   have hfl:(u8s str).flatten=str.map fun b=>AV.int .u8 b.toNat:=by
    unfold u8s;clear hid0 vx hxv hsz hc1 hc2
    induction str with
    |nil=>rfl
    |cons b r ih=>simp[ih]
   have hvl:vs.length=str.length:=by simp[vs]
   have hrl:rest.length=cap -str.length:=by simp[rest]
   have hv:VRs G w (u8s str).flatten vs:=by
    rw[hfl];refine⟨by simp[vs],fun j hj=>?_⟩;simp at hj;simp only[vs,getD_eq,List.getElem?_map,List.getElem?_eq_getElem hj,Option.map_some,Option.getD_some];exact .int _ _
   have hp:Pushed w w' (.cells (vs++rest).toArray e (cap,cap+1)):=⟨rfl,.now⟩
   obtain⟨G',hl,hm,r3⟩:=hw.yG id0 hid _ vs rest hv hget hnx hlt (fz:=(cap,cap+1)) (fun o' ho'=>by
    simp only[List.size_toArray,List.length_append,hvl,hrl] at ho'
    simp;omega) hp
   have hun:∀x∈u8s str,x.length=1:=fun x hx=>by
    simp only[u8s,List.mem_map] at hx;obtain⟨b,_,rfl⟩:=hx;rfl
   have hlen:(u8s str).length=str.length:=by simp[u8s]
   have hfll:(u8s str).flatten.length=str.length:=by rw[hfl];simp
   refine⟨.slice (some ⟨w.heap.size,0,none⟩) str.length cap,w',G',?_,hm,?_⟩
   · have hconv:(convert src dst (.string ⟨str.toArray⟩)).run P w=(Conv.stringToBytes e ⟨str.toArray⟩).run P w:=by
      simp only[convert,Sem.run_bind,run_underlying hsrc w,run_underlying hdst w,Result.andThen_ok,run_underlying he w]
     have hrow:(((⟨str.toArray⟩:ByteArray).data.map fun b=>(Value.int .u8 b.toNat))++Array.replicate (cap -str.length) (.int .u8 0))=(vs++rest).toArray:=by
      apply Array.ext';simp[vs,rest]
     have hsb:(Conv.stringToBytes e ⟨str.toArray⟩).run P w=.ok (.slice (some ⟨w.heap.size,0,none⟩) str.length cap) w':=by
      simp only[Conv.stringToBytes,hsz,Sem.run_bind,hc2,Result.andThen_ok,hrow];simp only[newRow,newObj,markStringish,shape,freeze,Sem.run_bind,Sem.run,Result.andThen_ok,World.shape?,Array.getElem?_push_size,World.freeze,Nat.one_ne_zero,if_false,Sem.run_pure];rw[aCz];simp only[List.size_toArray,List.length_append,hvl,hrl]
      have :str.length+(cap -str.length)=cap:=by omega
      simp[this,w']
     simp[execOp,ho,hxv,hconv,hsb]
   · have :=VR.aT (G:=G') (w:=w') (id0+2) 1 (u8s str) w.heap.size 0 cap (fun j=>vs.getD j undef) hun (fun j hj=>⟨(r3 j hj).1,(r3 j hj).2.1,by
      rw[hfl] at hj ⊢;simp at hj;simp only[getD_eq,List.getElem?_map,List.getElem?_eq_getElem hj,Option.map_some,Option.getD_some]
      rfl⟩) (fun j hj=>(r3 j hj).2.2) ⟨by omega,⟨_,hl,rfl,by simp only[hfll,hlen];omega,rfl,by simp only[hrl,hlen,Nat.mul_one]⟩⟩
     rw[hlen] at this;exact this
 · cases h
theorem aOx {src dst e:TypeId} {x:Operand} {x':Arg} (ho:o.op=.convert src dst x) (hx:argOf g x=some x') (hsrc:P.underlying src=some .string) (hdst:P.underlying dst=some (.slice e))
 (he:P.underlying e=some (.int .u8)):OpOK P g o (.str2b x'):=
 (xM ho hx hsrc hdst he).op fun _ _=>rfl
theorem WR.mQ {G:Gh} {H H':Heap} {w w':World} (h:WR g G H w) (id0:Nat) (o:AObj) (x:Go.Obj) (ho:o.blk=true) (hid:G.loc id0=none) (hget:∀m,H'.get m=if m=id0 then some o else H.get m) (hnx:H.next≤H'.next) (hlt0:id0<H'.next)
 (p:Pushed w w' x) (hob:(∀a u,VR G w a u→VR G w' a u)→ObOK g G w' ⟨w.heap.size,0,0,1⟩ o):Made g G H w id0 o (G.addLoc id0 ⟨w.heap.size,0,0,1⟩) H' w':=by
 have hp:=h.oG p;have he:=Ext.oG h p
 refine⟨hp.oZ id0 _ _ hid hget hnx hlt0 (fun id l' hl hv=>.inl (Ne.symm (Nat.ne_of_lt (h.eG hl hv)))) (fun j _ hi=>?_) (fun cs' opn' he'=>by rw[he'] at ho;cases ho) (fun hh=>?_) (fun _=>?_),
  ⟨⟨w.heap.size,0,0,1⟩,rfl,by simp only[Gh.addLoc,if_true],fun id hne=>by simp only[Gh.addLoc];rw[if_neg hne]⟩,fun {G0 H0 w0} e0 hge=>(e0.trans he).oZ id0 _ _ hid hget hnx hge (.inl e0.size),fun b o hi=>.inl hi,fun b o hi=>hi,p.size,p.old⟩
 · obtain⟨v,hv⟩:=h.imme _ _ hi
   have :=fY hv;simp at this
 · rcases hh with ⟨_,_,hh⟩|hh<;>rw[hh] at ho<;>cases ho
 · exact⟨rfl,rfl,hob fun a u hv=>hv.mono he.loc he.imm⟩
theorem WR.aLl {G:Gh} {H H':Heap} {w w':World} (h:WR g G H w) (id0:Nat) (hid:G.loc id0=none) (hget:∀m,H'.get m=if m=id0 then some (.map []) else H.get m) (hnx:H.next≤H'.next) (hlt0:id0<H'.next)
 (p:Pushed w w' (.map #[] 0)):Made g G H w id0 (.map []) (G.addLoc id0 ⟨w.heap.size,0,0,1⟩) H' w':=
 h.mQ id0 _ _ rfl hid hget hnx hlt0 p fun _=>⟨#[],0,p.new,rfl,⟨fun i hi=>absurd hi (Nat.not_lt_zero i),fun i j hi=>absurd hi (Nat.not_lt_zero i)⟩,fun j hj=>absurd hj (Nat.not_lt_zero j)⟩
theorem rF {t:TypeId} {r:Option Operand} {kt vt:TypeId} (ho:o.op=.makeMap t r) (ht:P.underlying t=some (.map kt vt)) (hr:r=none∨∃k n,r=some (.const (.int k n))):FopOK P g o .mkmap:=by
 intro s a G H H' w ob val id0 hw hs h hid hget hnx hlt;simp only[fop,Option.some.injEq,Prod.mk.injEq] at h;obtain⟨rfl,rfl⟩:=h;have hp:Pushed w {w with heap:=w.heap.push (.map #[] 0)} (.map #[] 0):=⟨rfl,.now⟩;have hm:=hw.aLl id0 hid hget hnx hlt hp;refine⟨.map (some w.heap.size),_,_,?_,hm,?_⟩
 · rcases hr with rfl|⟨k,n,rfl⟩
   · simp[execOp,ho,Instr.makeMap,newObj,Sem.run]
   · simp[execOp,ho,Instr.makeMap,run_underlying ht w,Act.eval,asInt,asIntOf,newObj,Sem.run]
 · exact VR.map id0 ⟨w.heap.size,0,0,1⟩ (by simp only[Gh.addLoc,if_true])
theorem aCv {t:TypeId} {r:Option Operand} {kt vt:TypeId} (ho:o.op=.makeMap t r) (ht:P.underlying t=some (.map kt vt)) (hr:r=none∨∃k n,r=some (.const (.int k n))):OpOK P g o .mkmap:=
 (rF ho ht hr).op fun _ _=>rfl
def keyP (P:Program) (t:TypeId):Option Sk:=
 match P.underlying t with
 |some .bool=>some .b
 |some (.int _)=>some .i
 |some .string=>some .s
 |some (.struct _)|some (.array _ _)=>(shapeP P 60 t).map .f
 |_=>none
def plainSk:Sk→Bool
 |.f _=>false
 |_=>true
theorem sJ {G:Gh} {w:World} {kt:TypeId} {k:Sk} {d:TypeDesc} (hk:keyP P kt=some k) (hp:plainSk k=true) (hd:P.underlying kt=some d) {x y:AV} {u v:Value} {b:Bool} (h:sameKey k x y=some b) (hx:VR G w x u) (hy:VR G w y v):
 Instr.sameNow d u v=some b:=by
 unfold keyP at hk;rw[hd] at hk
 cases x<;>cases y<;>simp only[sameKey] at h<;>first
  |(cases h;done)
  |skip
 · cases k<;>simp only[] at h<;>first|(cases h;done)|skip
   obtain rfl:=Option.some.inj h;rw[hx.dE,hy.dE];cases d<;>simp at hk<;>rfl
 · cases k<;>simp only[] at h<;>first|(cases h;done)|skip
   split at h
   · rename_i hjj
     obtain rfl:=Option.some.inj h;subst hjj;rw[hx.cS,hy.cS];cases d<;>simp at hk<;>simp[Instr.sameNow]
   · cases h
 · cases k<;>simp only[] at h<;>first|(cases h;done)|skip
   obtain rfl:=Option.some.inj h;rw[hx.cT,hy.cT];cases d<;>simp at hk;simp only[Instr.sameNow,Option.some.injEq];rw[beq_toListBytes,ByteArray.toList_mk,ByteArray.toList_mk]
 · cases k<;>simp only[] at h<;>first|(cases h;done)|(cases hp;done)
theorem kQ {α:Type} (P:Program) (w:World) (f:α→PUnit→Sem (ForInStep PUnit)):∀(l:List α),(∀x∈l,∀r,(f x r).run P w=.ok (.yield PUnit.unit) w)→(forIn l PUnit.unit f:Sem PUnit).run P w=.ok PUnit.unit w
 |[],_=>by simp
 |x::l,h=>by
  simp only[List.forIn_cons,Sem.run_bind,h x (by simp),Result.andThen_ok];exact kQ P w f l fun y hy=>h y (by simp[hy])
theorem oJ {P:Program} (w:World) (em:Bool):∀(f:Nat) (t:TypeId) (ks:List Sk),shapeP P f t=some ks→∀(d:Nat) (b:Bool) (us:List Value),isAggP P t=some b→us.length=ks.length→
 (Instr.checkKey em (d+f) t (valOf b us)).run P w=.ok () w:=by
 intro f
 induction f with
 |zero=>intro t ks h;cases h
 |succ f ih=>
  intro t ks h d b us hb hl;rw[show d+(f+1)=(d+f)+1 from rfl,Instr.checkKey];simp only[shapeP] at h;split at h
  · rename_i hu;simp only[Sem.run_bind,run_underlying hu w,Result.andThen_ok];rfl
  · rename_i hu;simp only[Sem.run_bind,run_underlying hu w,Result.andThen_ok];rfl
  · rename_i hu;simp only[Sem.run_bind,run_underlying hu w,Result.andThen_ok];rfl
  · rename_i fs hu
    split at h
    · cases h
    · have hbt:b=true:=by simp only[isAggP,hu,Option.some.injEq] at hb;exact hb.symm
      subst hbt;simp only[valOf,if_true,Sem.run_bind,run_underlying hu w,Result.andThen_ok]
      have key:∀(l:List Field) (off:Nat) (ks':List Sk),shapeFs P (shapeP P f) off l=some ks'→off+ks'.length≤us.length→
       ∀x∈l,(if x.name≠ "_" then(do Instr.checkKey em (d+f) x.type (←part x.type us.toArray x.offset)) else pure ():Sem Unit).run P w=.ok () w:=by
       intro l
       induction l with
       |nil=>intro off ks' _ _ x hx;cases hx
       |cons fd l ihl=>
        intro off ks' hs hi x hx;simp only[shapeFs] at hs;split at hs
        · rename_i hc
          split at hs
          · rename_i k hk
            split at hs
            · rename_i hsz
              simp only[Option.map_eq_some_iff] at hs;obtain⟨ks2,hs2,rfl⟩:=hs;simp only[List.length_append] at hi
              rcases List.mem_cons.1 hx with rfl|hx
              · obtain⟨bf,hbf,hbf1⟩:=kR hk
                have p1:=eE hsz hbf w (us:=us) (off:=x.offset) (by omega) hbf1;simp only[ne_eq,if_pos hc.1,Sem.run_bind,p1,Result.andThen_ok];exact ih x.type k hk d bf _ hbf (by simp;omega)
              · exact ihl (off+k.length) ks2 hs2 (by omega) x hx
            · cases hs
          · cases hs
        · cases hs
      have h1:=key fs.toList 0 ks h (by omega)
      rw[←Array.forIn_toList,kQ P w _ fs.toList (fun x hx r=>by
       have :=h1 x hx;split at this
       · rename_i hn
         rw[if_pos hn];simp only[Sem.run_bind] at this ⊢;generalize (part x.type us.toArray x.offset).run P w=rr at this ⊢
         cases rr with
         |ok p w1=>
          simp only[Result.andThen_ok] at this ⊢;rw[this];simp
         |halt q w1=>cases this
       · rename_i hn
         rw[if_neg hn]
         simp)]
      simp
  · rename_i n e hu
    have hbt:b=true:=by simp only[isAggP,hu,Option.some.injEq] at hb;exact hb.symm
    subst hbt;split at h
    · rename_i k hk
      split at h
      · rename_i hsz
        obtain rfl:=Option.some.inj h;obtain⟨bf,hbf,hbf1⟩:=kR hk;simp only[valOf,if_true,Sem.run_bind,run_underlying hu w,Result.andThen_ok]
        have hlk:((List.replicate n k).flatten).length=n*k.length:=by simp
        rw[hlk] at hl;simp only[Std.Legacy.Range.forIn_eq_forIn_range',Std.Legacy.Range.size,Nat.sub_zero,Nat.add_one_sub_one,Nat.div_one]
        rw[kQ P w _ (List.range' 0 n) (fun i hi r=>by
         have hi':i<n:=by
          have :=List.mem_range'_1.1 hi;omega
         have hin:i*k.length+k.length≤us.length:=by
          rw[hl,←Nat.succ_mul];exact Nat.mul_le_mul_right _ hi'
         have p1:=eE hsz hbf w (us:=us) (off:=i*k.length) hin hbf1
         simp only[Sem.run_bind,bX hsz w,Result.andThen_ok,p1,ih e k hk d bf _ hbf (show((us.drop (i*k.length)).take k.length).length=k.length by simp;omega),Sem.run_pure])]
        simp
      · cases h
    · cases h
  · cases h
theorem aFj {kt:TypeId} {sh:List Sk} (hk:keyP P kt=some (.f sh)):shapeP P 60 kt=some sh∧isAggP P kt=some true∧∃d,P.underlying kt=some d∧(∀u v,Instr.sameNow d u v=none):=by
 unfold keyP at hk
 split at hk<;>rename_i hu<;>first
  |(cases hk;done)
  |(simp only[Option.map_eq_some_iff,Sk.f.injEq] at hk
    obtain⟨_,h1,rfl⟩:=hk;refine⟨h1,by simp[isAggP,hu],_,hu,fun u v=>?_⟩
    cases u<;>cases v<;>rfl)
theorem run_checkKey {G:Gh} {kt:TypeId} {k:Sk} (hk:keyP P kt=some k) (b:Bool) (d:Nat) {x:AV} {u:Value} {w:World} (hx:VR G w x u) (hok:keyOk k x=true):
 (Instr.checkKey b (d+60) kt u).run P w=.ok () w:=by
 by_cases hp:plainSk k=true
 · have hk':=hk
   unfold keyP at hk;rw[show d+60=(d+59)+1 from rfl,Instr.checkKey]
   split at hk<;>rename_i hu<;>first
    |(cases hk;done)
    |(simp only[Option.map_eq_some_iff] at hk;obtain⟨_,_,rfl⟩:=hk;cases hp;done)
    |(simp only[Sem.run_bind,run_underlying hu w,Result.andThen_ok]
      rfl)
 · cases k with
   |f sh=>
    obtain⟨h1,h2,_⟩:=aFj hk
    cases x<;>simp only[keyOk] at hok<;>first|(cases hok;done)|skip
    rename_i xs;obtain⟨us,e1,l1,_,_⟩:=hx.iJ;subst e1;have :=oJ w b 60 kt sh h1 d true us h2 (by rw[l1];exact of_decide_eq_true hok);simpa [valOf] using this
   |_=>exact absurd rfl hp
theorem rU {G:Gh} {w:World} {kt:TypeId} {k:Sk} {d:TypeDesc} (hk:keyP P kt=some k) (hp:plainSk k=true) (hd:P.underlying kt=some d) {x:AV} {u:Value} (hx:VR G w x u):
 ∀(es:List (AV×AV)) (ents:List MapEntry) (i:Nat) (r:Option (Nat×AV)),findKeyA k x es i=some r→ents.length=es.length→
  (∀j,j<es.length→VR G w (es.getD j (undefA,undefA)).1 (ents.getD j default).key∧VR G w (es.getD j (undefA,undefA)).2 (ents.getD j default).val)→
  ∃r',Instr.findNow d u ents i=some r'∧((r=none∧r'=none)∨∃j av vv,r=some (j,av)∧r'=some (j,vv)∧VR G w av vv∧i≤j∧j<i+es.length∧sameKey k x (es.getD (j -i) (undefA,undefA)).1=some true)
 |[],[],i,r,h,hl,hv=>by
  obtain rfl:=Option.some.inj h;exact⟨none,rfl,.inl ⟨rfl,rfl⟩⟩
 |[],_::_,i,r,h,hl,hv=>by simp at hl
 |(y,z)::es,[],i,r,h,hl,hv=>by simp at hl
 |(y,z)::es,e::ents,i,r,h,hl,hv=>by
  have h0:=hv 0 (by simp);simp only[List.getD_cons_zero] at h0;simp only[findKeyA] at h;split at h
  · rename_i hs
    obtain rfl:=Option.some.inj h;have hn:=sJ hk hp hd hs hx h0.1;refine⟨some (i,e.val),by simp[Instr.findNow,hn],.inr ⟨i,z,e.val,rfl,rfl,h0.2,Nat.le_refl _,by simp,by simpa using hs⟩⟩
  · rename_i hs
    have hn:=sJ hk hp hd hs hx h0.1
    obtain⟨r',h1,h2⟩:=rU hk hp hd hx es ents (i+1) r h (by simpa using hl) (fun j hj=>by
     have :=hv (j+1) (by simpa using hj)
     simpa using this)
    refine⟨r',by simp only[Instr.findNow,hn];exact h1,?_⟩
    rcases h2 with h2|⟨j,av,vv,a1,a2,a3,a4,a5,a6⟩
    · exact .inl h2
    · refine .inr ⟨j,av,vv,a1,a2,a3,by omega,by simp;omega,?_⟩
      rw[show j -i=(j -(i+1))+1 by omega,List.getD_cons_succ];exact a6
  · cases h
theorem rT {G:Gh} {w:World} {kt:TypeId} {sh:List Sk} (hk:keyP P kt=some (.f sh)) {x:AV} {u:Value} (hx:VR G w x u):
 ∀(es:List (AV×AV)) (ents:List MapEntry) (i:Nat) (r:Option (Nat×AV)),findKeyA (.f sh) x es i=some r→ents.length=es.length→
  (∀j,j<es.length→VR G w (es.getD j (undefA,undefA)).1 (ents.getD j default).key∧VR G w (es.getD j (undefA,undefA)).2 (ents.getD j default).val)→
  ∃r',(Instr.findAsking kt u ents i).run P w=.ok r' w∧((r=none∧r'=none)∨∃j av vv,r=some (j,av)∧r'=some (j,vv)∧VR G w av vv∧i≤j∧j<i+es.length∧sameKey (.f sh) x (es.getD (j -i) (undefA,undefA)).1=some true)
 |[],[],i,r,h,hl,hv=>by
  obtain rfl:=Option.some.inj h;exact⟨none,by simp[Instr.findAsking],.inl ⟨rfl,rfl⟩⟩
 |[],_::_,i,r,h,hl,hv=>by simp at hl
 |(y,z)::es,[],i,r,h,hl,hv=>by simp at hl
 |(y,z)::es,e::ents,i,r,h,hl,hv=>by
  obtain⟨h1,h2,_⟩:=aFj hk;have h0:=hv 0 (by simp);simp only[List.getD_cons_zero] at h0;simp only[findKeyA] at h
  have heq:∀b,sameKey (.f sh) x y=some b→(Op.equal kt u e.key).run P w=.ok b w:=by
   intro b hs
   cases x<;>cases y<;>simp only[sameKey] at hs<;>first|(cases hs;done)|skip
   rename_i xs ys;obtain⟨us,e1,l1,_,v1⟩:=hx.iJ;obtain⟨vs,e2,l2,_,v2⟩:=h0.1.iJ;rw[e1,e2];have :=aBy 60 kt sh h1 true h2 (10000 -60) G w xs ys us vs b hs ⟨l1,v1⟩ ⟨l2,v2⟩
   have h3:(Op.equalIn 10000 kt (.agg us.toArray) (.agg vs.toArray)).run P w=.ok b w:=by simpa [valOf] using this
   exact h3
  split at h
  · rename_i hs
    obtain rfl:=Option.some.inj h;refine⟨some (i,e.val),by simp[Instr.findAsking,heq _ hs],.inr ⟨i,z,e.val,rfl,rfl,h0.2,Nat.le_refl _,by simp,by simpa using hs⟩⟩
  · rename_i hs
    obtain⟨r',h1,h2⟩:=rT hk hx es ents (i+1) r h (by simpa using hl) (fun j hj=>by
     have :=hv (j+1) (by simpa using hj)
     simpa using this)
    refine⟨r',by simp[Instr.findAsking,heq _ hs];exact h1,?_⟩
    rcases h2 with h2|⟨j,av,vv,a1,a2,a3,a4,a5,a6⟩
    · exact .inl h2
    · refine .inr ⟨j,av,vv,a1,a2,a3,by omega,by simp;omega,?_⟩
      rw[show j -i=(j -(i+1))+1 by omega,List.getD_cons_succ];exact a6
  · cases h
theorem run_findKey {G:Gh} {w:World} {kt:TypeId} {k:Sk} (hk:keyP P kt=some k) {x:AV} {u:Value} (hx:VR G w x u) {es:List (AV×AV)} {ents:Array MapEntry} {r:Option (Nat×AV)} (h:findKeyA k x es 0=some r) (hl:ents.size=es.length)
 (hv:∀j,j<es.length→VR G w (es.getD j (undefA,undefA)).1 (ents.getD j default).key∧VR G w (es.getD j (undefA,undefA)).2 (ents.getD j default).val):
 ∃r',(Instr.findKey kt u ents.toList).run P w=.ok r' w∧((r=none∧r'=none)∨∃j av vv,r=some (j,av)∧r'=some (j,vv)∧VR G w av vv∧j<es.length∧sameKey k x (es.getD j (undefA,undefA)).1=some true):=by
 have hv':∀j,j<es.length→VR G w (es.getD j (undefA,undefA)).1 (ents.toList.getD j default).key∧VR G w (es.getD j (undefA,undefA)).2 (ents.toList.getD j default).val:=fun j hj=>by
  have :=hv j hj
  have e:ents.toList.getD j default=ents.getD j default:=by
   simp[List.getD,Array.getD_eq_getD_getElem?]
  rw[e];exact this
 have fin:∀{r':Option (Nat×Value)},((r=none∧r'=none)∨∃j av vv,r=some (j,av)∧r'=some (j,vv)∧VR G w av vv∧0≤j∧j<0+es.length∧sameKey k x (es.getD (j -0) (undefA,undefA)).1=some true)→
  ((r=none∧r'=none)∨∃j av vv,r=some (j,av)∧r'=some (j,vv)∧VR G w av vv∧j<es.length∧sameKey k x (es.getD j (undefA,undefA)).1=some true):=by
  intro r' h2
  rcases h2 with h2|⟨j,av,vv,a1,a2,a3,a4,a5,a6⟩
  · exact .inl h2
  · exact .inr ⟨j,av,vv,a1,a2,a3,by omega,by simpa using a6⟩
 by_cases hp:plainSk k=true
 · obtain⟨d,hd⟩:∃d,P.underlying kt=some d:=by
    unfold keyP at hk
    split at hk<;>rename_i hu<;>first|(cases hk;done)|exact⟨_,hu⟩
   obtain⟨r',h1,h2⟩:=rU hk hp hd hx es ents.toList 0 r h (by simpa using hl) hv';refine⟨r',?_,fin h2⟩;simp only[Instr.findKey,Sem.run_bind,run_underlying hd w,Result.andThen_ok,h1];rfl
 · cases k with
   |f sh=>
    obtain⟨_,_,d,hd,hn⟩:=aFj hk;obtain⟨r',h1,h2⟩:=rT hk hx es ents.toList 0 r h (by simpa using hl) hv';refine⟨r',?_,fin h2⟩;simp only[Instr.findKey,Sem.run_bind,run_underlying hd w,Result.andThen_ok]
    cases hel:ents.toList with
    |nil=>
     rw[hel] at h1;simp only[Instr.findAsking,Sem.run_pure,Result.ok.injEq,and_true] at h1;subst h1;simp[Instr.findNow]
    |cons e l=>
     rw[hel] at h1;simp only[Instr.findNow,hn];exact h1
   |_=>exact absurd rfl hp
theorem run_getObj_map {w:World} {r:Nat} {ents:Array MapEntry} {clock:Nat} (h:w.heap[r]?=some (.map ents clock)):(getObj r).run P w=.ok (.map ents clock) w:=by
 simp[getObj,Sem.run,h]
theorem aLf {t kt vt:TypeId} {k:Sk} {zv:Value} {z:AV} {ok:Bool} {x i:Operand} {x' i':Arg} (ho:o.op=.lookup t x i ok) (hx:argOf g x=some x') (hi:argOf g i=some i') (ht:P.underlying t=some (.map kt vt))
 (hk:keyP P kt=some k) (hz:zeroP P vt=some zv) (hzc:ofConst zv=some z):OpOK P g o (.lookup k z ok x' i'):=by
 intro s a G H w v H' hw hs h;have vx:=aV hw hs hx;have vi:=aV hw hs hi;have hzero:=eF hz w;have hzr:=oE hzc G w
 have two:∀{p q:AV} {u1 u2:Value},VR G w p u1→VR G w q u2→VR G w (.tup [p,q]) (.tuple #[u1,u2]):=fun h1 h2=>
  .tup [_,_] [_,_] rfl (h1.cons (h2.cons (VRs.nil G w))).2
 simp only[aop] at h;split at h
 · rename_i hko
   have hck':∀b,(Instr.checkKey b 10000 kt (a.eval i)).run P w=.ok () w:=fun b=>run_checkKey hk b 9940 vi hko;split at h
   · rename_i hid
     rw[hid] at vx;generalize hxv:a.eval x=u at vx;cases vx;simp only[Option.some.injEq,Prod.mk.injEq] at h;obtain⟨rfl,rfl⟩:=h
     have hfk:(Instr.findKey kt (a.eval i) []).run P w=.ok none w:=by
      obtain⟨r',h1,h2⟩:=run_findKey (P:=P) hk vi (es:=[]) (ents:= #[]) (r:=none) rfl rfl (fun j hj=>absurd hj (Nat.not_lt_zero j))
      rcases h2 with ⟨_,rfl⟩|⟨j,av,vv,hh,_⟩
      · exact h1
      · cases hh
     refine OpOK.pure' hw (u:=if ok then .tuple #[zv,.bool false] else zv) ?_ (by cases ok<;>simp <;>first|exact hzr|exact two hzr (.bool false));simp only[execOp,ho,hxv,Instr.lookup,Sem.run_bind,run_underlying ht w,Result.andThen_ok,Sem.run_pure,hck',hfk,hzero]
   · rename_i id hid
     rw[hid] at vx;generalize hxv:a.eval x=u at vx
     cases vx with
     |map _ l hl=>
      split at h
      · rename_i es hg
        obtain⟨_,_,ents,clock,m1,m2,mb,m3⟩:=hw.mapr id l _ hl hg rfl;have hgo:=run_getObj_map (P:=P) m1;split at h
        · rename_i j av hf
          simp only[Option.some.injEq,Prod.mk.injEq] at h;obtain⟨rfl,rfl⟩:=h;obtain⟨r',h1,h2⟩:=run_findKey (P:=P) hk vi hf m2 m3
          rcases h2 with ⟨hh,_⟩|⟨j',av',vv,e1,e2,e3,_⟩
          · cases hh
          · cases e1
            subst e2;refine OpOK.pure' hw (u:=if ok then .tuple #[vv,.bool true] else vv) ?_ (by cases ok<;>simp <;>first|exact e3|exact two e3 (.bool true));simp only[execOp,ho,hxv,Instr.lookup,Sem.run_bind,run_underlying ht w,Result.andThen_ok,hgo,Sem.run_pure,hck',h1]
        · rename_i hf
          simp only[Option.some.injEq,Prod.mk.injEq] at h;obtain⟨rfl,rfl⟩:=h;obtain⟨r',h1,h2⟩:=run_findKey (P:=P) hk vi hf m2 m3
          rcases h2 with ⟨_,e2⟩|⟨j',av',vv,e1,_⟩
          · subst e2
            refine OpOK.pure' hw (u:=if ok then .tuple #[zv,.bool false] else zv) ?_ (by cases ok<;>simp <;>first|exact hzr|exact two hzr (.bool false));simp only[execOp,ho,hxv,Instr.lookup,Sem.run_bind,run_underlying ht w,Result.andThen_ok,hgo,Sem.run_pure,hck',h1,hzero]
          · cases e1
        · cases h
      · cases h
   · cases h
 · cases h
theorem WR.oM {G:Gh} {H:Heap} {w w':World} (h:WR g G H w) {id:Nat} {l:Loc} {o o':AObj} {x:Go.Obj} (hl:G.loc id=some l) (hg:H.get id=some o) (ho:o.blk=true) (ho':o'.blk=true)
 (hw':w'.heap=w.heap.setIfInBounds l.blk x) (hsame:Same w w') (hob:(∀a u,VR G w a u→VR G w' a u)→w'.heap[l.blk]?=some x→ObOK g G w' l o'):
 WR g G (H.set id o') w'∧Ext G H w G (H.set id o') w':=by
 have hlive:H.live id:=⟨_,hg,uM ho⟩;obtain⟨m1,m2,m3⟩:=h.mapr id l _ hl hg ho;have hlt:=m3.lt ho
 have hother:∀b,b≠l.blk→w'.heap[b]?=w.heap[b]?:=fun b hb=>by
  rw[hw',Array.getElem?_setIfInBounds_ne];exact Ne.symm hb
 have hself:w'.heap[l.blk]?=some x:=by
  rw[hw'];simp[hlt]
 have himm:∀b o,G.imm b o→b≠l.blk:=fun b o hi hb=>by
  obtain⟨v,hv⟩:=h.imme b o hi;obtain⟨c,el,fz,hc,_⟩:=lF hv;rw[hb] at hc;exact m3.qC ho hc
 have hic:∀b o,G.imm b o→w'.cell? ⟨b,o,none⟩=w.cell? ⟨b,o,none⟩:=fun b o hi=>cD (hother b (himm b o hi));have hmono:∀{a u},VR G w a u→VR G w' a u:=fun hv=>hv.mono (fun _ _ h=>h) (fun b o hi=>⟨hi,hic b o hi⟩)
 have hne:∀{i l'},i≠id→G.loc i=some l'→H.live i→l'.blk≠l.blk:=fun {i l'} hi hl1 hv1 hb=>by
  obtain⟨ob,hob,hov⟩:=hv1
  cases ob with
  |cells cs opn=>obtain⟨c,el,fz,hc,_⟩:=h.room i l' hl1 (.inl ⟨cs,opn,hob⟩);rw[hb] at hc;exact m3.qC ho hc
  |tok=>obtain⟨c,el,fz,hc,_⟩:=h.room i l' hl1 (.inr hob);rw[hb] at hc;exact m3.qC ho hc
  |dead=>cases hov
  |_=>
   obtain⟨n1,n2,_⟩:=h.mapr i l' _ hl1 hob rfl
   rcases h.disj i id l' l hi hl1 hl ⟨_,hob,rfl⟩ hlive with hd|hd|hd
   · exact hd hb
   · omega
   · omega
 have hget:∀{m},m≠id→(H.set id o').get m=H.get m:=fun hm=>by rw[Heap.aB,if_neg hm]
 have hgid:(H.set id o').get id=some o':=by rw[Heap.aB,if_pos rfl]
 have hliv:∀{m},(H.set id o').live m→H.live m:=fun {m} hv=>by
  rcases Heap.dN.1 hv with ⟨rfl,_⟩|⟨_,hv⟩
  · exact hlive
  · exact hv
 refine⟨{
  cells:=fun i l' cs opn h1 h2=>by
   have hi:i≠id:=fun e=>by rw[e,hgid] at h2;cases h2;cases ho'
   rw[hget hi] at h2;obtain⟨a1,a2,a3,a4,a5⟩:=h.cells i l' cs opn h1 h2;refine⟨a1,a2,a3,a4,fun j hj=>?_⟩;obtain⟨u,hu,hvu⟩:=a5 j hj;exact⟨u,by rw[cD (hother _ (hne hi h1 ⟨_,h2,rfl⟩))];exact hu,hmono hvu⟩
  room:=fun i l' h1 h2=>by
   have hi:i≠id:=fun e=>by rw[e,hgid] at h2;rcases h2 with ⟨_,_,h2⟩|h2<;>cases h2<;>cases ho'
   rw[hget hi] at h2;obtain⟨c,el,fz,a1,a2,a3⟩:=h.room i l' h1 h2;have hb:=hne hi h1 (by rcases h2 with ⟨cs,opn,h2⟩|h2<;>exact⟨_,h2,rfl⟩);exact⟨c,el,fz,by rw[hother _ hb];exact a1,a2,fun j hj=>by rw[dP (hother _ hb)];exact a3 j hj⟩
  disj:=fun i i' l1 l2 hn h1 h2 hv1 hv2=>h.disj i i' l1 l2 hn h1 h2 (hliv hv1) (hliv hv2)
  immd:=fun i l' h1 hv1=>h.immd i l' h1 (hliv hv1)
  mapr:=fun i l' ob h1 h2 hk=>by
   by_cases hi:i=id
   · subst hi
     obtain rfl:=Option.some.inj (h1.symm.trans hl);rw[hgid] at h2;cases h2;exact⟨m1,m2,hob (fun _ _=>hmono) hself⟩
   · rw[hget hi] at h2
     obtain⟨a1,a2,a3⟩:=h.mapr i l' ob h1 h2 hk;exact⟨a1,a2,a3.mono (hother _ (hne hi h1 ⟨_,h2,uM hk⟩)) fun _ _=>hmono⟩
  lt:=h.lt
  imme:=fun b o hi=>by rw[hic b o hi];exact h.imme b o hi
  glob:=fun n cs hn=>hmono (h.glob n cs hn)
  mo:=h.mo},?_⟩
 have e0:=Ext.refl G H w
 exact {
  loc:=fun _ _ h=>h
  imm:=fun b o hi=>⟨hi,hic b o hi⟩
  size:=by rw[hw'];simp
  frame:=fun b hb hn=>hother b (fun e=>hn id l hl hlive e.symm)
  blks:=fun i l' h1 hv1=>.inr ⟨i,l',h1,hliv hv1,rfl⟩
  immn:=fun _ _ h=>.inl h
  next:=Nat.le_refl _
  news:=fun _ _ h h'=>by rw[h] at h';cases h'
  dead:=fun _ _ _ hv=>hliv hv
  mo:=rfl
  same:=hsame.toB _}
theorem WR.aPu {G:Gh} {H:Heap} {w w':World} (h:WR g G H w) {id:Nat} {l:Loc} {es es':List (AV×AV)} {ents ents':Array MapEntry} {clock clock':Nat} (hl:G.loc id=some l) (hg:H.get id=some (.map es))
 (hm:w.heap[l.blk]?=some (.map ents clock)) (hw':w'.heap=w.heap.setIfInBounds l.blk (.map ents' clock')) (hsame:Same w w') (hl':ents'.size=es'.length) (hbn:Born ents' clock')
 (hv:∀j,j<es'.length→VR G w (es'.getD j (undefA,undefA)).1 (ents'.getD j default).key∧VR G w (es'.getD j (undefA,undefA)).2 (ents'.getD j default).val):
 WR g G (H.set id (.map es')) w'∧Ext G H w G (H.set id (.map es')) w':=
 h.oM hl hg rfl rfl hw' hsame fun hmono hself=>⟨ents',clock',hself,hl',hbn,fun j hj=>⟨hmono _ _ (hv j hj).1,hmono _ _ (hv j hj).2⟩⟩
theorem jH (ents:Array MapEntry) (i:Nat) (f:MapEntry→MapEntry) (j:Nat) (hj:j<ents.size):(ents.modify i f).getD j default=if i=j then f (ents.getD j default) else ents.getD j default:=by
 simp only[Array.getD_eq_getD_getElem?,Array.getElem?_modify];split
 · simp[hj]
 · rfl
theorem Born.modify {ents:Array MapEntry} {clock:Nat} (h:Born ents clock) (i:Nat) (f:MapEntry→MapEntry) (hf:∀e,(f e).born=e.born):Born (ents.modify i f) clock:=by
 have hb:∀j,j<ents.size→((ents.modify i f).getD j default).born=(ents.getD j default).born:=fun j hj=>by
  rw[jH _ _ _ _ hj];split
  · rw[hf]
  · rfl
 refine⟨fun j hj=>?_,fun j k hj hk he=>?_⟩
 · rw[Array.size_modify] at hj
   rw[hb j hj];exact h.1 j hj
 · rw[Array.size_modify] at hj hk
   rw[hb j hj,hb k hk] at he;exact h.2 j k hj hk he
theorem Born.push {ents:Array MapEntry} {clock:Nat} (h:Born ents clock) (e:MapEntry) (he:e.born=clock):Born (ents.push e) (clock+1):=by
 have hb:∀j,j<(ents.push e).size→((ents.push e).getD j default).born=if j<ents.size then(ents.getD j default).born else clock:=fun j hj=>by
  rw[Array.size_push] at hj;simp only[Array.getD_eq_getD_getElem?,Array.getElem?_push];by_cases h1:j<ents.size
  · rw[if_neg (by omega),if_pos h1]
  · rw[if_pos (by omega),if_neg h1];exact he
 refine⟨fun j hj=>?_,fun j k hj hk hjk=>?_⟩
 · rw[hb j hj]
   by_cases h1:j<ents.size
   · rw[if_pos h1];have :=h.1 j h1;omega
   · rw[if_neg h1];omega
 · rw[hb j hj,hb k hk] at hjk
   rw[Array.size_push] at hj hk;by_cases h1:j<ents.size<;>by_cases h2:k<ents.size
   · rw[if_pos h1,if_pos h2] at hjk;exact h.2 j k h1 h2 hjk
   · rw[if_pos h1,if_neg h2] at hjk;have :=h.1 j h1;omega
   · rw[if_neg h1,if_pos h2] at hjk;have :=h.1 k h2;omega
   · omega
theorem rR {G:Gh} {w:World} (d:Nat):∀(sh:List Sk) (xs ys:List AV) (us vs:List Value),eqFlat sh xs ys=some true→VRs G w xs us→VRs G w ys vs→
 us.length=vs.length∧(vs.zip us).all (fun p=>Instr.sameBits d p.1 p.2)=true
 |[],xs,ys,us,vs,h,hx,hy=>by
  cases xs<;>cases ys<;>simp only[eqFlat] at h<;>first|(cases h;done)|skip
  have h1:=hx.1;have h2:=hy.1;simp only[List.length_nil,List.length_eq_zero_iff] at h1 h2;subst h1 h2;simp
 |k::sh,xs,ys,us,vs,h,hx,hy=>by
  cases xs with
  |nil=>cases k<;>simp[eqFlat] at h
  |cons x xs=>
   cases ys with
   |nil=>cases k<;>cases x<;>simp[eqFlat] at h
   |cons y ys=>
    have h1:=hx.1;have h2:=hy.1
    cases us with
    |nil=>simp at h1
    |cons u us=>
     cases vs with
     |nil=>simp at h2
     |cons v vs=>
      have hxu:=hx.2 0 (by simp);have hyv:=hy.2 0 (by simp);simp only[List.getD_cons_zero] at hxu hyv;have tx:VRs G w xs us:=⟨by simpa using h1,fun j hj=>by have :=hx.2 (j+1) (by simpa using hj);simpa using this⟩;have ty:VRs G w ys vs:=⟨by simpa using h2,fun j hj=>by have :=hy.2 (j+1) (by simpa using hj);simpa using this⟩
      have fin:∀{b:Bool},(eqFlat sh xs ys).map (b&& ·)=some true→(b=true→Instr.sameBits d v u=true)→(u::us).length=(v::vs).length∧((v::vs).zip (u::us)).all (fun p=>Instr.sameBits d p.1 p.2)=true:=by
       intro b hm hb;simp only[Option.map_eq_some_iff,Bool.and_eq_true] at hm;obtain⟨r,hr,hb',rfl⟩:=hm;obtain⟨g1,g2⟩:=rR d sh xs ys us vs hr tx ty;refine⟨by simp[g1],?_⟩;simp only[List.zip_cons_cons,List.all_cons,hb hb',Bool.true_and];exact g2
      cases k<;>cases x<;>cases y<;>simp only[eqFlat] at h<;>first|(cases h;done)|skip
      · refine fin h fun hb=>?_
        simp only[beq_iff_eq] at hb;subst hb;rw[hxu.dE,hyv.dE];cases d<;>simp[Instr.sameBits]
      · split at h
        · rename_i hjk
          refine fin h fun hb=>?_;simp only[beq_iff_eq] at hb;subst hb hjk;rw[hxu.cS,hyv.cS];cases d<;>simp[Instr.sameBits]
        · cases h
      · refine fin h fun hb=>?_
        simp only[beq_iff_eq] at hb;subst hb;rw[hxu.cT,hyv.cT];cases d<;>simp only[Instr.sameBits]<;>rw[beq_toListBytes]<;>simp
theorem aAp {G:Gh} {w:World} {k:Sk} {x y:AV} {u v:Value} (d:Nat) (h:sameKey k x y=some true) (hx:VR G w x u) (hy:VR G w y v):Instr.sameBits (d+1) v u=true:=by
 cases x<;>cases y<;>simp only[sameKey] at h<;>first
  |(cases h;done)
  |skip
 · cases k<;>simp only[] at h<;>first|(cases h;done)|skip
   simp at h;subst h;rw[hx.dE,hy.dE];simp[Instr.sameBits]
 · cases k<;>simp only[] at h<;>first|(cases h;done)|skip
   split at h
   · rename_i hc
     simp at h;subst hc;subst h;rw[hx.cS,hy.cS];simp[Instr.sameBits]
   · cases h
 · cases k<;>simp only[] at h<;>first|(cases h;done)|skip
   simp at h;subst h;rw[hx.cT,hy.cT];simp only[Instr.sameBits];rw[beq_toListBytes];simp
 · cases k<;>simp only[] at h<;>first|(cases h;done)|skip
   rename_i xs ys sh;obtain⟨us,e1,l1,_,v1⟩:=hx.iJ;obtain⟨vs,e2,l2,_,v2⟩:=hy.iJ;obtain⟨g1,g2⟩:=rR d sh xs ys us vs h ⟨l1,v1⟩ ⟨l2,v2⟩;rw[e1,e2];simp only[Instr.sameBits,List.size_toArray,g1,beq_self_eq_true,Bool.true_and];exact g2
theorem aCu {t kt vt:TypeId} {k:Sk} {x i y:Operand} {x' i' y':Arg} (ho:o.op=.mapUpdate t x i y∨o.op=.insert t x i y) (hx:argOf g x=some x') (hi:argOf g i=some i') (hy:argOf g y=some y')
 (ht:P.underlying t=some (.map kt vt)) (hk:keyP P kt=some k):OpOK P g o (.mapup k x' i' y'):=by
 intro s a G H w v H' hw hs h;have vx:=aV hw hs hx;have vi:=aV hw hs hi;have vy:=aV hw hs hy;have hck0:keyOk k (Arg.eval g s i')=true→(Instr.checkKey false 10000 kt (a.eval i)).run P w=.ok () w:=fun hko=>run_checkKey hk false 9940 vi hko;simp only[aop] at h;split at h
 · rename_i hko
   have hck:=hck0 hko;split at h
   · rename_i id hid
     rw[hid] at vx;generalize hxv:a.eval x=u at vx
     cases vx with
     |map _ l hl=>
      split at h
      · rename_i es hg
        obtain⟨_,_,ents,clock,m1,m2,mb,m3⟩:=hw.mapr id l _ hl hg rfl;have hgo:=run_getObj_map (P:=P) m1
        have hrun:∀{w':World},(Instr.mapUpdate t (.map (some l.blk)) (a.eval i) (a.eval y)).run P w=.ok () w'→(execOp a.eval o).run P w=.ok .skip w':=fun hr=>by
         rcases ho with ho|ho<;>simp[execOp,ho,hxv,hr]
        have hset:∀(en:Array MapEntry) (cl:Nat),(setObj l.blk (.map en cl)).run P w=.ok () {w with heap:=w.heap.setIfInBounds l.blk (.map en cl)}:=fun en cl=>by
         simp[setObj,Sem.run,m1]
        split at h
        · rename_i j av hf
          simp only[Option.some.injEq,Prod.mk.injEq] at h;obtain⟨rfl,rfl⟩:=h;obtain⟨r',h1,h2⟩:=run_findKey (P:=P) hk vi hf m2 m3
          rcases h2 with ⟨hh,_⟩|⟨j',av',vv,e1,e2,e3,e4,e5⟩
          · cases hh
          · cases e1
            subst e2;have hsb:=aAp 9999 e5 vi (m3 j e4).1
            obtain⟨r1,r2⟩:=hw.aPu (es':=es.set j (Arg.eval g s i',Arg.eval g s y')) (ents':=ents.modify j fun e=>{e with key:=a.eval i,val:=a.eval y}) (clock':=clock) (w':={w with heap:=w.heap.setIfInBounds l.blk (.map (ents.modify j fun e=>{e with key:=a.eval i,val:=a.eval y}) clock)}) hl hg m1 rfl .now (by simp[m2]) (mb.modify _ _ fun _=>rfl) (fun q hq=>by
             simp only[List.length_set] at hq;rw[jH _ _ _ _ (by omega),getD_eq,List.getElem?_set];by_cases hjq:j=q
             · rw[if_pos hjq,if_pos hjq]
               subst hjq;rw[if_pos e4];exact⟨vi,vy⟩
             · rw[if_neg hjq,if_neg hjq]
               exact m3 q hq)
            refine⟨.skip,undef,_,G,hrun ?_,.inr ⟨rfl,rfl⟩,r1,r2,VR.eH G _⟩
            have hkey:((ents[j]?).map (·.key)).getD (a.eval i)=(ents.getD j default).key:=by
             have hjs:j<ents.size:=by omega
             simp[Array.getD,hjs]
            simp only[Instr.mapUpdate,Sem.run_bind,run_underlying ht w,Result.andThen_ok,hgo,hck,h1,Instr.keyThatStays,hkey,hsb,if_true,Sem.run_pure,hset]
        · rename_i hf
          simp only[Option.some.injEq,Prod.mk.injEq] at h;obtain⟨rfl,rfl⟩:=h;obtain⟨r',h1,h2⟩:=run_findKey (P:=P) hk vi hf m2 m3
          rcases h2 with ⟨_,e2⟩|⟨j',av',vv,e1,_⟩
          · subst e2
            obtain⟨r1,r2⟩:=hw.aPu (es':=es++[(Arg.eval g s i',Arg.eval g s y')]) (ents':=ents.push {key:=a.eval i,val:=a.eval y,born:=clock}) (clock':=clock+1) (w':={w with heap:=w.heap.setIfInBounds l.blk (.map (ents.push {key:=a.eval i,val:=a.eval y,born:=clock}) (clock+1))}) hl hg m1 rfl .now (by simp[m2]) (mb.push _ rfl) (fun q hq=>by
             simp only[List.length_append,List.length_cons,List.length_nil] at hq;rw[getD_eq,List.getElem?_append,Array.getD_eq_getD_getElem?,Array.getElem?_push];by_cases hjq:q<es.length
             · rw[if_pos hjq,if_neg (by omega)]
               have :=m3 q hjq
               rwa [Array.getD_eq_getD_getElem?] at this
             · rw[if_neg hjq,if_pos (by omega)]
               have hq0:q -es.length=0:=by omega
               rw[hq0]
               exact⟨vi,vy⟩)
            refine⟨.skip,undef,_,G,hrun ?_,.inr ⟨rfl,rfl⟩,r1,r2,VR.eH G _⟩;simp only[Instr.mapUpdate,Sem.run_bind,run_underlying ht w,Result.andThen_ok,hgo,hck,h1,hset]
          · cases e1
        · cases h
      · cases h
   · cases h
 · cases h
end
end
end Go.Av
