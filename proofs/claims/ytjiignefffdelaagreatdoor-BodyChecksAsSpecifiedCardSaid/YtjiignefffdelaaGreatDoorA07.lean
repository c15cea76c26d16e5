/-
  Parts of the proof of statement 4: AvSoundG
-/
import Derived.Test.YtjiignefffdelaaGreatDoorA06
import Derived.Laws.BytesArg
set_option linter.unusedVariables false
set_option linter.unusedSimpArgs false
namespace Go.Av
open Go
section
theorem fG (zs:List AV):∀(n k:Nat),k<n*zs.length→(List.replicate n zs).flatten.getD k undefA=zs.getD (k%zs.length) undefA
 |0,k,h=>by simp at h
 |n+1,k,h=>by
  rw[List.replicate_succ,List.flatten_cons,getD_eq,List.getElem?_append];rw[Nat.succ_mul] at h;by_cases hk:k<zs.length
  · rw[if_pos hk,Nat.mod_eq_of_lt hk];rfl
  · rw[if_neg hk]
    have :=fG zs n (k -zs.length) (by omega);rw[getD_eq] at this;rw[this,←Nat.mod_eq_sub_mod (by omega)]
theorem yQ {G:Gh} {w:World} {zs:List AV} {z:Array Value} (h:VRs G w zs z.toList) (hpos:1≤zs.length) (n m:Nat) (hm:m=n*zs.length):
 VRs G w (List.replicate n zs).flatten ((Array.range m).map fun i=>z[i%z.size]!).toList:=by
 have hl:=h.1;simp only[Array.length_toList] at hl;refine⟨by simp[hm],fun k hk=>?_⟩
 have hk':k<n*zs.length:=by simpa using hk
 rw[fG zs n k hk',cP]
 have hkm:k<m:=by omega
 have hmod:k%zs.length<zs.length:=Nat.mod_lt _ hpos;have :=h.2 (k%zs.length) hmod;rw[cP] at this
 have e:((Array.range m).map fun i=>z[i%z.size]!)[k]?=some (z[k%z.size]!):=by
  simp[hkm]
 rw[e]
 have e2:z[k%z.size]! =(z[k%zs.length]?).getD undef:=by
  rw[hl]
  have :k%zs.length<z.size:=by omega
  simp[getElem!_pos,this]
 simp only[Option.getD_some];rw[e2];exact this
section
variable {P:Program} {g:Genv} {o:Oper}
theorem nG {zs:List AV} (h1:∀c∈zs,c.one=true) (n:Nat):∀c∈(List.replicate n zs).flatten,c.one=true:=fun c hc=>by
 simp only[List.mem_flatten,List.mem_replicate] at hc;obtain⟨l,⟨_,rfl⟩,hc⟩:=hc;exact h1 c hc
theorem aEb (n:Nat) (h:n≤2^40):IntKind.i64.wrap (n:Int)=(n:Int):=by
 have hs:IntKind.i64.signed=true:=rfl;have hb:IntKind.i64.bits=64:=rfl;unfold IntKind.wrap;simp only[hs,hb,Bool.true_and]
 have e:((n:Int)%2^64)=n:=by omega
 rw[e]
 have :¬((n:Int)≥2^(64 -1)):=by omega
 rw[decide_eq_false this];rfl
theorem rV {t e:TypeId} {sz:Nat} {i:TypeInfo} {z:Value} {zs:List AV} {x y:Operand} {x' y':Arg} (ho:o.op=.makeSlice t x y) (hx:argOf g x=some x') (hy:argOf g y=some y') (ht:sliceP P t=some (e,sz))
 (hi:P.info? e=some i) (hz:zeroP P e=some z) (hzs:constsL z.cells.toList=some zs) (hpos:1≤sz) (hb1:1≤i.bytes):FopOK P g o (.mkslice sz i.bytes zs x' y'):=by
 intro s a G H H' w ob val id0 hw hs h hid hget hnx hlt;have vx:=aV hw hs hx;have vy:=aV hw hs hy;obtain⟨hu,hsz⟩:=eX ht;simp only[fop] at h;split at h
 · rename_i l c hl hc
   obtain⟨k1,e1,f1⟩:=gT hl vx;obtain⟨k2,e2,f2⟩:=gT hc vy;split at h
   · rename_i hcond
     obtain⟨c1,c2,c3⟩:=hcond;simp only[Option.some.injEq,Prod.mk.injEq] at h;obtain⟨rfl,rfl⟩:=h;have hcz:=dX hzs G w
     have hc40:c≤2^40:=by
      have :1*c≤i.bytes*c:=Nat.mul_le_mul_right _ hb1;omega
     have w1:=aEb l (by omega);have w2:=aEb c hc40
     have hzsl:z.cells.size=zs.length:=by simpa using hcz.1.1
     have hpos':1≤zs.length:=by omega
     have hz1:=yQ hcz.1 hpos' c (c*sz) (by rw[c3]);have hp:Pushed w {w with heap:=w.heap.push (.cells ((Array.range (c*sz)).map fun i=>z.cells[i%z.cells.size]!) e)} (.cells (((Array.range (c*sz)).map fun i=>z.cells[i%z.cells.size]!).toList++[]).toArray e (0,0)):=⟨by rw[List.append_nil,Array.toArray_toList],.now⟩;have hm:=hw.mR id0 hid _ _ [] hz1 (nG hcz.2 c) false (fun _=>rfl) hget hnx hlt (Clear.zero _) hp;refine⟨.slice (some ⟨w.heap.size,0,none⟩) l c,_,_,?_,hm,?_⟩
     · have t1:(decide ((c:Int)<0)||decide ((i.bytes:Int)*(c:Int)>2^48))=false:=by
        have :(i.bytes:Int)*(c:Int)≤2^40:=by exact_mod_cast c2
        simp;omega
       have t2:¬((l:Int)<0):=by omega
       have t3:¬((l:Int)>(c:Int)):=by omega
       simp only[execOp,ho,Instr.makeSlice,Sem.run_bind,run_underlying hu w,Result.andThen_ok,f1,f2,asInt,asIntOf,Sem.run_pure,jA hi w,w1,w2,t1,decide_eq_false t2,decide_eq_false t3,Bool.or_false,Bool.false_eq_true,if_false,run_askRoom,Int.toNat_natCast,bX hsz w];by_cases h0:c*sz=0
       · have hA:∀f:Nat→Value,(Array.range 0).map f= #[]:=fun f=>by simp
         simp only[h0,if_true,Sem.run_bind,Sem.run_pure,Result.andThen_ok,hA];rfl
       · simp only[h0,if_false,Sem.run_bind,eF hz w,Sem.run_pure,Result.andThen_ok]
         rfl
     · have hlen:(List.replicate c zs).flatten.length=c*sz:=by simp[c3]
       refine VR.sl id0 sz 0 l c c ⟨w.heap.size,0,(List.replicate c zs).flatten.length,(((Array.range (c*sz)).map fun i=>z.cells[i%z.cells.size]!).toList++[]).length⟩ (by simp only[Gh.addLoc,if_true]) c1 (by simp only[hlen];omega) (.inl rfl)
   · cases h
 · cases h
theorem aFt {t e:TypeId} {sz:Nat} {i:TypeInfo} {z:Value} {zs:List AV} {x y:Operand} {x' y':Arg} (ho:o.op=.makeSlice t x y) (hx:argOf g x=some x') (hy:argOf g y=some y') (ht:sliceP P t=some (e,sz))
 (hi:P.info? e=some i) (hz:zeroP P e=some z) (hzs:constsL z.cells.toList=some zs) (hpos:1≤sz) (hb1:1≤i.bytes):OpOK P g o (.mkslice sz i.bytes zs x' y'):=
 (rV ho hx hy ht hi hz hzs hpos hb1).op fun _ _=>rfl
theorem aWr {c:Call} {x:Operand} {x':Arg} {t elem:TypeId} {sz:Nat} {z:Value} {zs:List AV} (ho:o.op=.call c) (hc:c.callee=.builtin .clear) (ha:c.args= #[x])
 (hx:argOf g x=some x') (hat:c.argTypes[0]?=some t) (ht:P.underlying t=some (.slice elem)) (hz:zeroP P elem=some z) (hzs:constsL z.cells.toList=some zs):OpOK P g o (.clr sz zs x'):=by
 intro s a G H w v H' hw hs h;have vx:=aV hw hs hx
 have hop:∀{u:Value} {w':World},a.eval x=u→(Builtin.clear_ c.argTypes o.type #[u]).run P w=.ok (.tuple #[]) w'→(execOp a.eval o).run P w=.ok (.value (.tuple #[])) w':=by
  intro u w' hxv hr;simp[execOp,ho,resolve,hc,ha,invoke,builtin,hxv,hr]
 simp only[aop] at h;split at h
 · rename_i hid
   rw[hid] at vx;generalize hxv:a.eval x=u at vx;cases vx;simp only[Option.some.injEq,Prod.mk.injEq] at h;obtain⟨rfl,rfl⟩:=h;exact OpOK.pure' hw (hop hxv (by simp[Builtin.clear_,hat,run_underlying ht w])) (VR.eH G w)
 · rename_i hid
   rw[hid] at vx;generalize hxv:a.eval x=u at vx;simp only[Option.some.injEq,Prod.mk.injEq] at h;obtain⟨rfl,rfl⟩:=h;cases vx<;>exact OpOK.pure' hw (hop hxv (by simp[Builtin.clear_,hat,run_underlying ht w])) (VR.eH G w)
 · rename_i hid
   rw[hid] at vx;generalize hxv:a.eval x=u at vx;cases vx;simp only[Option.some.injEq,Prod.mk.injEq] at h;obtain⟨rfl,rfl⟩:=h;exact OpOK.pure' hw (hop hxv (by simp[Builtin.clear_,hat,run_underlying ht w])) (VR.eH G w)
 · rename_i id sz' off len cap hnz hid
   rw[hid] at vx;split at h
   · rename_i hszz
     obtain⟨hszz,hzl⟩:=hszz;subst hszz;split at h
     · rename_i cs opn hg
       split at h
       · rename_i hin
         simp only[Option.some.injEq,Prod.mk.injEq] at h;obtain⟨rfl,rfl⟩:=h;generalize hxv:a.eval x=u at vx
         cases vx with
         |sl _ _ _ _ _ cap' l hl hlen hinn hcap=>
          obtain⟨a1,a2,a3,a4,a5⟩:=hw.cells id l cs opn hl hg;obtain⟨ca,el,fz,b1,b2,b3⟩:=hw.room id l hl (.inl ⟨cs,opn,hg⟩);have hcz:=dX hzs G w
          have hzsl:z.cells.size=zs.length:=by simpa using hcz.1.1
          have hfl:(List.replicate len zs).flatten.length=len*sz':=by simp[hzl]
          have hvz:VRs G w (List.replicate len zs).flatten (Builtin.zeroCells z.cells len).toList:=by
           by_cases hsz0:0<sz'
           · exact yQ hcz.1 (by omega) len (len*z.cells.size) (by rw[hzsl])
           · have h0:sz'=0:=by omega
             have hz0:zs=[]:=List.length_eq_zero_iff.1 (by omega);refine⟨?_,fun j hj=>?_⟩
             · rw[hfl];simp[Builtin.zeroCells,hzsl,hzl]
             · rw[hfl,h0,Nat.mul_zero] at hj;omega
          have hone:=nG hcz.2 len;have hvl:=hvz.1
          obtain⟨w',hr,hu⟩:=cL P l.blk (l.base+off) (Builtin.zeroCells z.cells len).toList 0 w ⟨ca,el,fz,b1,by omega⟩
           (fun j hj=>by rw[Nat.add_zero,Nat.add_assoc];exact b3 (off+j) (by omega)) (gA hvz hone)
          rw[Nat.add_zero] at hu;obtain⟨r1,r2⟩:=hw.store hl hg hvz hone (by rw[hfl];exact hin) hu;have hn0:len≠0:=fun e=>hnz e;refine⟨_,_,w',G,hop hxv ?_,.inl rfl,r1,r2,VR.eH G w'⟩
          cases len with
          |zero=>exact absurd rfl hn0
          |succ n=>
           simp only[Builtin.clear_,hat,List.getElem?_toArray,List.getElem?_cons_zero,Sem.run_bind,run_underlying ht w,Result.andThen_ok,eF hz w,hr,Sem.run_pure]
       · cases h
     · cases h
   · cases h
 · cases h
theorem aOq {src dst e:TypeId} {x:Operand} {x':Arg} (ho:o.op=.convert src dst x) (hx:argOf g x=some x') (hsrc:P.underlying src=some (.slice e)) (hdst:P.underlying dst=some .string)
 (he:P.underlying e=some (.int .u8)):OpOK P g o (.b2str x'):=by
 intro s a G H w v H' hw hs h;have vx:=aV hw hs hx;simp only[aop] at h;generalize hva:Arg.eval g s x'=va at vx h;split at h
 · cases h
 · rename_i hnstr
   split at h
   · rename_i els hels
     simp only[Option.map_eq_some_iff,Prod.mk.injEq] at h;obtain⟨bs,hbs,rfl,rfl⟩:=h;obtain⟨eu,e1,elen,evs,ev,ef⟩:=gM P hw hels vx;have efl:=length_flatten eu
     have hev:evs.length=els.length:=by rw[ev.1,efl,Nat.mul_one]
     have ef0:=ef els.length (Nat.le_refl _);rw[Nat.mul_one,List.take_of_length_le (by omega)] at ef0
     have key:∀(els:List (List AV)) (bs:List UInt8),bytesOf els=some bs→∃ns:List Int,els.flatten=ns.map (fun n=>AV.int .u8 n)∧bs=ns.map fun n=>UInt8.ofNat n.toNat:=by
      intro els
      induction els with
      |nil=>intro bs hb;obtain rfl:=Option.some.inj hb;exact⟨[],rfl,rfl⟩
      |cons e r ih=>
       intro bs hb
       match e,hb with
       |[.int .u8 n],hb=>
        simp only[bytesOf,Option.map_eq_some_iff] at hb;obtain⟨bs',hb',rfl⟩:=hb;obtain⟨ns,h1,h2⟩:=ih bs' hb';exact⟨n::ns,by simp[h1],by simp[h2]⟩
     obtain⟨ns,k1,k2⟩:=key els bs hbs
     have hns:evs=ns.map (fun n=>Value.int .u8 n):=by
      apply List.ext_getElem?;intro j
      have hl2:els.flatten.length=ns.length:=by rw[k1];simp
      by_cases hj:j<ns.length
      · have :=ev.2 j (by omega)
        rw[k1] at this
        have e2:(ns.map fun n=>AV.int .u8 n).getD j undefA=.int .u8 (ns[j]):=by simp[getD_eq,hj]
        rw[e2] at this;have :=this.cS;rw[fN evs undef j (by rw[ev.1];omega),this];simp[hj]
      · rw[List.getElem?_eq_none (by rw[ev.1];omega),List.getElem?_eq_none (by simp;omega)]
     have hstr:VR G w (.str bs) (.string ⟨bs.toArray⟩):=VR.aAt _ _ _
     have fin:∀u:Value,a.eval x=u→(convert src dst u).run P w=.ok (.string ⟨bs.toArray⟩) w→∃n u w' G',(execOp a.eval o).run P w=.ok n w'∧NextV n u∧WR g G' H w'∧Ext G H w G' H w'∧VR G' w' (.str bs) u:=fun u hu hr=>
      OpOK.pure' hw (by simp[execOp,ho,hu,hr]) hstr
     generalize hxv:a.eval x=u at vx ef0
     have slc:∀{b o' len cap:Nat},u=.slice (some ⟨b,o',none⟩) len cap→len=els.length→(convert src dst u).run P w=.ok (.string ⟨bs.toArray⟩) w:=by
      intro b o' len cap hu' hl';subst hu' hl'
      have hld:(loadCells ⟨b,o',none⟩ els.length).run P w=.ok (ns.map (Value.int .u8)).toArray w:=by
       rw[hns] at ef0;simpa [Builtin.firstCells] using ef0
      rw[run_convert_bytes_string w src dst e _ els.length cap hsrc he hdst,run_bytesToString w _ els.length cap ns hld,foldl_push_bytes,k2];simp[ByteArray.empty,ByteArray.emptyWithCapacity];rfl
     cases vx with
     |nilsl=>
      simp[elemsOf] at hels;subst hels;simp[bytesOf] at hbs;subst hbs;refine fin _ hxv ?_;simp only[convert,Sem.run_bind,run_underlying hsrc w,run_underlying hdst w,Result.andThen_ok,run_underlying he w,Conv.bytesToString];rfl
     |aT tag sz' els' b o' cap us hun hh hv htag=>
      simp only[elemsOf] at hels;split at hels
      · obtain rfl:=Option.some.inj hels
        exact fin _ hxv (slc rfl rfl)
      · cases hels
     |lstE tag sz' b o' s' htag=>
      simp only[elemsOf] at hels;split at hels
      · obtain rfl:=Option.some.inj hels
        simp[bytesOf] at hbs;subst hbs;refine fin _ hxv ?_;rw[run_convert_bytes_string w src dst e _ 0 0 hsrc he hdst,run_bytesToString w _ 0 0 [] (by simp[loadCells,loadCellsFrom])];rfl
      · cases hels
     |sl id sz' off len cap cap' l hl hlen hin hcap=>
      refine fin _ hxv (slc rfl ?_);simp only[elemsOf] at hels;split at hels
      · split at hels
        · split at hels
          · rename_i hcs hle
            obtain rfl:=Option.some.inj hels;rename_i hs1 cs;have :=(dW 1 len (cs.drop off) (by simp;omega)).2.1;omega
          · cases hels
        · cases hels
      · cases hels
     |str s=>exact absurd rfl (hnstr _)
     |_=>simp[elemsOf] at hels
   · cases h
end
end
end Go.Av
