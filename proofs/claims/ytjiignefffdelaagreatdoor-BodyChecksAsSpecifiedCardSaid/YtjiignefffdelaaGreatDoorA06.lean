/-
  Parts of the proof of statement 4: AvSoundF
-/
import Derived.Test.YtjiignefffdelaaGreatDoorA05
set_option linter.unusedVariables false
set_option linter.unusedSimpArgs false
namespace Go.Av
open Go
section
theorem VRs.append {G:Gh} {w:World} {xs ys:List AV} {us vs:List Value} (h1:VRs G w xs us) (h2:VRs G w ys vs):VRs G w (xs++ys) (us++vs):=by
 have l1:=h1.1;have l2:=h2.1;refine⟨by simp[l1,l2],fun j hj=>?_⟩;simp at hj;rw[getD_eq,getD_eq,List.getElem?_append,List.getElem?_append];by_cases hc:j<xs.length
 · rw[if_pos hc,if_pos (by omega)]
   exact h1.2 j hc
 · rw[if_neg hc,if_neg (by omega)]
   have :=h2.2 (j -xs.length) (by omega);rw[getD_eq,getD_eq] at this;rw[l1];exact this
theorem VRs.take {G:Gh} {w:World} {xs:List AV} {us:List Value} (h:VRs G w xs us) (n:Nat):VRs G w (xs.take n) (us.take n):=by
 have l:=h.1;refine⟨by simp[l],fun j hj=>?_⟩;simp only[List.length_take] at hj;rw[getD_take _ _ _ _ (by omega),getD_take _ _ _ _ (by omega)];exact h.2 j (by omega)
theorem gM (P:Program) {g:Genv} {G:Gh} {H:Heap} {w:World} (hw:WR g G H w) {sz:Nat} {x:AV} {u:Value} {ys:List (List AV)} (h:elemsOf H sz x=some ys) (hv:VR G w x u):
 (∀e∈ys,e.length=sz)∧(∀c∈ys.flatten,c.one=true)∧(Builtin.lenOf u).run P w=.ok ys.length w∧
 ∃vs:List Value,VRs G w ys.flatten vs∧∀n,n≤ys.length→(Builtin.firstCells sz n u).run P w=.ok (vs.take (n*sz)).toArray w:=by
 have one_of:∀{l:List AV},(∀j,j<l.length→(l.getD j undefA).one=true)→∀c∈l,c.one=true:=fun {l} hl c hc=>by
  obtain⟨j,hj,rfl⟩:=List.mem_iff_getElem.1 hc;have :=hl j hj;simpa [getD_eq,List.getElem?_eq_getElem hj] using this
 have cells:∀{b o':Nat} {l:List AV},(∀j,j<l.length→∃v,w.cell? ⟨b,o'+j,none⟩=some v∧VR G w (l.getD j undefA) v)→
  ∃vs:List Value,VRs G w l vs∧∀m,m≤l.length→(loadCells ⟨b,o',none⟩ m).run P w=.ok (vs.take m).toArray w:=fun {b o' l} hc=>by
  obtain⟨us,h1,h2,h3⟩:=tR hc;refine⟨us,⟨h1,h3⟩,fun m hm=>?_⟩
  have :=iR P w b o' (us.take m) (fun j hj=>by
   simp at hj;rw[getD_take _ _ _ _ (by omega)]
   exact h2 j (by omega))
  rwa [show(us.take m).length=m by simp;omega] at this
 cases hv with
 |nilsl=>
  obtain rfl:=Option.some.inj h;refine⟨fun e he=>(by cases he),fun c hc=>(by simp at hc),rfl,[],VRs.nil G w,fun n hn=>?_⟩;simp[Builtin.firstCells]
 |aT tag sz' els b o' cap us hun hh hvv htag=>
  simp only[elemsOf] at h;split at h
  · rename_i hs
    subst hs;obtain rfl:=Option.some.inj h;obtain⟨vs,h1,h2⟩:=cells (l:=els.flatten) (b:=b) (o':=o') (fun j hj=>⟨us j,(hh j hj).2.1,hvv j hj⟩);refine⟨hun,one_of fun j hj=>(hh j hj).2.2,rfl,vs,h1,fun n hn=>?_⟩;have :=h2 (n*sz') (by rw[length_flatten hun];exact Nat.mul_le_mul_right _ hn);simpa [Builtin.firstCells] using this
  · cases h
 |lstE tag sz' b o' s' htag=>
  simp only[elemsOf] at h;split at h
  · obtain rfl:=Option.some.inj h
    refine⟨fun e he=>(by cases he),fun c hc=>(by simp at hc),rfl,[],VRs.nil G w,fun n hn=>?_⟩
    obtain rfl:n=0:=by simpa using hn
    simp[Builtin.firstCells,loadCells,loadCellsFrom]
  · cases h
 |str str=>
  simp only[elemsOf] at h;split at h
  · rename_i hs
    subst hs;obtain rfl:=Option.some.inj h
    have hfl:(u8s str.data.toList).flatten=str.data.toList.map fun b=>AV.int .u8 b.toNat:=by
     unfold u8s
     induction str.data.toList with
     |nil=>rfl
     |cons b r ih=>simp[ih]
    refine⟨fun e he=>?_,fun c hc=>?_,?_,str.data.toList.map fun b=>.int .u8 b.toNat,?_,fun n hn=>?_⟩
    · simp only[u8s,List.mem_map] at he
      obtain⟨b,_,rfl⟩:=he;rfl
    · rw[hfl] at hc
      simp only[List.mem_map] at hc;obtain⟨b,_,rfl⟩:=hc;rfl
    · have :str.size=(u8s str.data.toList).length:=by rw[u8s,List.length_map,Array.length_toList];rfl
      simp only[Builtin.lenOf,this];rfl
    · rw[hfl]
      refine⟨by simp,fun j hj=>?_⟩;simp at hj;simp only[getD_eq,List.getElem?_map,List.getElem?_eq_getElem (show j<str.data.toList.length by simpa using hj),Option.map_some,Option.getD_some];exact .int _ _
    · simp only[Builtin.firstCells,Nat.mul_one]
      have :((str.extract 0 n).data.map fun b=>(Value.int .u8 b.toNat))=((str.data.toList.map fun b=>Value.int .u8 b.toNat).take n).toArray:=by
       apply Array.ext';simp[ByteArray.data_extract,List.extract_eq_take_drop]
      rw[←this];rfl
  · cases h
 |sl id sz' off len cap cap' l hl hlen hin hcap=>
  simp only[elemsOf] at h;split at h
  · rename_i hs
    subst hs;split at h
    · rename_i cs hcs
      obtain⟨opn,hg⟩:=Heap.fB hcs;split at h
      · rename_i hle
        obtain rfl:=Option.some.inj h;obtain⟨f1,f2,f3⟩:=dW sz' len (cs.drop off) (by simp;omega);have hone:=(hw.cells id l cs opn hl hg).2.2.2.1
        obtain⟨vs,h1,h2⟩:=cells (l:=(cs.drop off).take (len*sz')) (b:=l.blk) (o':=l.base+off) (fun j hj=>by
         simp at hj
         exact rK hw hl hg hle j (by omega))
        refine⟨f3,?_,by simp[Builtin.lenOf,f2],vs,by rw[f1];exact h1,fun n hn=>?_⟩
        · rw[f1]
          exact fun c hc=>hone c (List.mem_of_mem_drop (List.mem_of_mem_take hc))
        · rw[f2] at hn
          have e2:n*sz'≤len*sz':=Nat.mul_le_mul_right _ hn;have :=h2 (n*sz') (by simp;omega);simpa [Builtin.firstCells] using this
      · cases h
    · cases h
  · cases h
 |_=>simp[elemsOf] at h
theorem xR (newLen:Nat):∀(r c:Nat),Builtin.growBy newLen r c≤max c (newLen+(newLen+768) / 4)
 |0,c=>Nat.le_max_left _ _
 |r+1,c=>by
  simp only[Builtin.growBy];split
  · exact Nat.le_max_left _ _
  · have :=xR newLen r (c+(c+768) / 4)
    omega
theorem nextslicecap_le {need cap:Nat} (h:cap<need):Builtin.nextslicecap need cap≤2*need+192:=by
 unfold Builtin.nextslicecap;split
 · omega
 · split
   · omega
   · have :=xR need 4 cap
     omega
def grownW (w:World) (o:Go.Obj):World:={w with heap:=w.heap.push o,drawn:=w.drawn+1}
section
variable {P:Program}
theorem jA {elem:TypeId} {i:TypeInfo} (h:P.info? elem=some i) (w:World):(typeInfo elem).run P w=.ok i w:=by
 simp[typeInfo,program,Sem.run,h]
theorem fH {w:World} {t t2 elem ty:TypeId} {d:TypeDesc} {sz n sLen sCap:Nat} {base:Option Addr} {u:Value} {vs:List Value} (ht:P.underlying t=some (.slice elem)) (hsz:sizeP P elem=some sz)
 (h2:P.underlying t2=some d) (hd:∀k,d≠ .int k) (hlen:(Builtin.lenOf u).run P w=.ok n w) (hf:(Builtin.firstCells sz n u).run P w=.ok vs.toArray w) (hfit:sLen+n≤sCap):
 (Builtin.append_ #[t,t2] ty #[.slice base sLen sCap,u]).run P w=
   ((match base with|some a=>storeCells (a.add (sLen*sz)) vs|none=>pure ():Sem Unit).run P w).andThen fun _ w'=>.ok (.slice base (sLen+n) sCap) w':=by
 have hz:(match d with|.int _=>true|_=>false)=false:=by cases d<;>first|rfl|exact absurd rfl (hd _)
 unfold Builtin.append_;simp only[List.getElem?_toArray,List.getElem?_cons_zero,List.getElem?_cons_succ,Sem.run_bind,run_underlying ht w,run_underlying h2 w,bX hsz w,Result.andThen_ok,Sem.run_pure,hz,Bool.false_eq_true,if_false,hlen,if_pos hfit,Bool.not_false,if_true,hf];cases base<;>simp
theorem mA {need old:Nat} {e:TypeId} (w:World):∃c,need≤c∧(choose (.appendCap need old e)).run P w=.ok c {w with drawn:=w.drawn+1}:=
 ⟨need+(w.tape w.drawn (.appendCap need old e))%(2^63 -need),by omega,by simp[choose,Sem.run,Question.forced,Question.cut]⟩
theorem run_askRoom (n:Nat) (w:World):(askRoom n).run P w=.ok () w:=by
 unfold askRoom;split<;>rfl
theorem run_append_grow {w:World} {t t2 elem ty:TypeId} {d:TypeDesc} {i:TypeInfo} {sz n sLen sCap:Nat} {base:Option Addr} {u z:Value} {os vs:List Value} (ht:P.underlying t=some (.slice elem)) (hsz:sizeP P elem=some sz)
 (h2:P.underlying t2=some d) (hd:∀k,d≠ .int k) (hi:P.info? elem=some i) (hb1:1≤i.bytes) (hz:zeroP P elem=some z) (hzs:z.cells.size=sz) (hlen:(Builtin.lenOf u).run P w=.ok n w)
 (ho:(Builtin.firstCells sz sLen (.slice base sLen sCap)).run P {w with drawn:=w.drawn+1}=.ok os.toArray {w with drawn:=w.drawn+1})
 (hf:(Builtin.firstCells sz n u).run P {w with drawn:=w.drawn+1}=.ok vs.toArray {w with drawn:=w.drawn+1}) (hfit:¬sLen+n≤sCap) (hbig:(sLen+n)*i.bytes≤2^40):
 ∃cap rest,sLen+n≤cap∧rest.length=(cap -(sLen+n))*sz∧
  (Builtin.append_ #[t,t2] ty #[.slice base sLen sCap,u]).run P w=.ok (.slice (some ⟨w.heap.size,0,none⟩) (sLen+n) cap) (grownW w (.cells (os++vs++rest).toArray elem)):=by
 have hz':(match d with|.int _=>true|_=>false)=false:=by cases d<;>first|rfl|exact absurd rfl (hd _)
 obtain⟨cap,hc1,hc2⟩:=mA (P:=P) (need:=sLen+n) (old:=sCap) (e:=elem) w;have hn1:¬((((sLen+n:Nat):Int)>IntKind.i64.max)∧(False∨i.bytes=0)):=fun hh=>hh.2.elim id (fun h0=>by omega);have hns:=nextslicecap_le (need:=sLen+n) (cap:=sCap) (by omega)
 have hsl:sLen+n≤2^40:=by
  have :(sLen+n)*1≤(sLen+n)*i.bytes:=Nat.mul_le_mul_left _ hb1;omega
 have hmul:Builtin.nextslicecap (sLen+n) sCap*i.bytes≤(2*(sLen+n)+192)*i.bytes:=Nat.mul_le_mul_right _ hns
 have hmul2:(2*(sLen+n)+192)*i.bytes=2*((sLen+n)*i.bytes)+192*i.bytes:=by rw[Nat.add_mul,Nat.mul_assoc]
 have hib:i.bytes≤(sLen+n)*i.bytes:=Nat.le_mul_of_pos_left _ (by omega)
 have hn2:¬Builtin.nextslicecap (sLen+n) sCap*i.bytes>2^48:=by omega
 refine⟨cap,(Builtin.zeroCells z.cells (cap -(sLen+n))).toList,hc1,by simp[Builtin.zeroCells,hzs],?_⟩;unfold Builtin.append_;simp only[List.getElem?_toArray,List.getElem?_cons_zero,List.getElem?_cons_succ,Sem.run_bind,run_underlying ht w,run_underlying h2 w,bX hsz w,Result.andThen_ok,Sem.run_pure,hz',Bool.false_eq_true,if_false,hlen,if_neg hfit,Bool.not_false,if_true,jA hi w,if_neg hn1,if_neg hn2,hc2,jA hi {w with drawn:=w.drawn+1},run_askRoom,ho,hf,eF hz {w with drawn:=w.drawn+1}]
 have he:os.toArray++vs.toArray++Builtin.zeroCells z.cells (cap -(sLen+n))=(os++vs++(Builtin.zeroCells z.cells (cap -(sLen+n))).toList).toArray:=by
  apply Array.ext';simp
 rw[he];rfl
theorem wO (w:World) (o:Go.Obj):Pushed w (grownW w o) o:=⟨rfl,.now⟩
theorem aFp {g:Genv} {G:Gh} {H:Heap} {w:World} (hw:WR g G H w) (mu:Bool) {sz:Nat} {els:List (List AV)} {vs rest:List Value} {e:TypeId} {cap:Nat}
 (hu:∀x∈els,x.length=sz) (h1:∀c∈els.flatten,c.one=true) (hv:VRs G w els.flatten vs) (hcap:els.length≤cap) (hrest:rest.length=(cap -els.length)*sz):
 ∃G',WR g G' (newRowA H mu sz els).2 (grownW w (.cells (vs++rest).toArray e))∧Ext G H w G' (newRowA H mu sz els).2 (grownW w (.cells (vs++rest).toArray e))∧
  VR G' (grownW w (.cells (vs++rest).toArray e)) (newRowA H mu sz els).1 (.slice (some ⟨w.heap.size,0,none⟩) els.length cap):=by
 have hp:=wO w (.cells (vs++rest).toArray e);have hfl:=length_flatten hu;have hvl:=hv.1
 have hmul:els.length*sz+(cap -els.length)*sz=cap*sz:=by rw[←Nat.add_mul];congr 1;omega
 cases mu with
 |true=>
  obtain⟨r1,r2⟩:=hw.aSv els.flatten vs rest hv h1 true (fun h=>by cases h) (Clear.zero _) hp;refine⟨_,r1,r2,?_⟩
  have :=VR.sl (G:=G.addLoc H.next ⟨w.heap.size,0,els.flatten.length,(vs++rest).length⟩) (w:=grownW w (.cells (vs++rest).toArray e)) H.next sz 0 els.length els.length cap
   ⟨w.heap.size,0,els.flatten.length,(vs++rest).length⟩ (by simp only[Gh.addLoc,if_true]) (Nat.le_refl _) (by simp only[hfl];omega)
   (.inr ⟨by simp only[hfl];omega,hcap,by simp only[List.length_append,hvl,hfl,hrest];omega⟩)
  exact this
 |false=>
  obtain⟨G',hl,r1,r2,r3⟩:=hw.aSw els.flatten vs rest hv (Clear.zero _) hp;refine⟨G',r1,r2,?_⟩;refine VR.aT (H.next+2) sz els w.heap.size 0 cap (fun j=>vs.getD j undef) hu (fun j hj=>⟨(r3 j hj).1,(r3 j hj).2.1,h1 _ (qA hj)⟩) (fun j hj=>(r3 j hj).2.2) ⟨hcap,?_⟩;exact⟨_,hl,rfl,by simp only[hfl];omega,rfl,hrest⟩
theorem WR.drew {g:Genv} {G:Gh} {H:Heap} {w:World} (h:WR g G H w):WR g G H {w with drawn:=w.drawn+1}:=h.of_heap rfl
theorem VR.drew {G:Gh} {w:World} {a:AV} {u:Value} (h:VR G w a u):VR G {w with drawn:=w.drawn+1} a u:=
 h.mono (fun _ _ h=>h) (fun b o hi=>⟨hi,rfl⟩)
theorem aLe {g:Genv} {o:Oper} {c:Call} {x y:Operand} {x' y':Arg} {t t2 elem:TypeId} {d:TypeDesc} {i:TypeInfo} {z:Value} {sz:Nat} {mu:Bool} (ho:o.op=.call c) (hc:c.callee=.builtin .append) (ha:c.args= #[x,y])
 (hx:argOf g x=some x') (hy:argOf g y=some y') (hat:c.argTypes= #[t,t2]) (ht:P.underlying t=some (.slice elem)) (hsz:sizeP P elem=some sz) (h2:P.underlying t2=some d) (hd:∀k,d≠ .int k)
 (hi:P.info? elem=some i) (hb1:1≤i.bytes) (hz:zeroP P elem=some z) (hzs:z.cells.size=sz):OpOK P g o (.append sz i.bytes mu x' y'):=by
 intro s a G H w v H' hw hs h;have vx:=aV hw hs hx;have vy:=aV hw hs hy;simp only[aop] at h;split at h
 · rename_i ys hys
   obtain⟨yu,y1,ylen,yvs,yv,yf⟩:=gM P hw hys vy;have yf0:=yf ys.length (Nat.le_refl _);obtain⟨_,_,_,yvs',yv',yf'⟩:=gM P hw.drew hys vy.drew;have yfl:=length_flatten yu
   have ye:∀{m:Nat} {l:List Value},l.length=m→l.take m=l:=fun {m l} hl=>by rw[List.take_of_length_le (by omega)]
   have yf0':(Builtin.firstCells sz ys.length (a.eval y)).run P w=.ok yvs.toArray w:=by
    rw[yf0,ye (by rw[yv.1,yfl])]
   have yf1':(Builtin.firstCells sz ys.length (a.eval y)).run P {w with drawn:=w.drawn+1}=.ok yvs'.toArray {w with drawn:=w.drawn+1}:=by
    rw[yf' ys.length (Nat.le_refl _),ye (by rw[yv'.1,yfl])]
   have yvw:VRs G w ys.flatten yvs':=⟨yv'.1,fun j hj=>(yv'.2 j hj).mono (fun _ _ h=>h) (fun b o hi=>⟨hi,rfl⟩)⟩
   have hop:∀{p:Option Addr} {sl sc:Nat} {r:Value} {w':World},a.eval x=.slice p sl sc→(Builtin.append_ #[t,t2] o.type #[.slice p sl sc,a.eval y]).run P w=.ok r w'→(execOp a.eval o).run P w=.ok (.value r) w':=by
    intro p sl sc r w' hxv hr;simp[execOp,ho,resolve,hc,ha,hat,invoke,builtin,hxv,hr]
   have hnone:ys=[]→∀{p:Option Addr} {sl sc:Nat},a.eval x=.slice p sl sc→sl≤sc→(execOp a.eval o).run P w=.ok (.value (.slice p sl sc)) w:=by
    intro hnil p sl sc hxv hle;subst hnil
    have hy0:yvs=[]:=by have :=yv.1;simpa using this
    subst hy0;refine hop hxv ?_;have :=fH (P:=P) (ty:=o.type) (base:=p) (sLen:=sl) (sCap:=sc) ht hsz h2 hd ylen yf0' (by simpa using hle);rw[this];cases p<;>rfl
   have hgrow:∀(mu:Bool) {p:Option Addr} {sl sc:Nat} {els:List (List AV)} {os:List Value} {G0:Gh} {H0:Heap},WR g G0 H0 w→Ext G H w G0 H0 w→a.eval x=.slice p sl sc→els.length=sl→(∀e∈els,e.length=sz)→(∀c∈els.flatten,c.one=true)→
    VRs G0 w els.flatten os→(Builtin.firstCells sz sl (.slice p sl sc)).run P {w with drawn:=w.drawn+1}=.ok os.toArray {w with drawn:=w.drawn+1}→¬sl+ys.length≤sc→(sl+ys.length)*i.bytes≤2^40→
    ∃n u w' G',(execOp a.eval o).run P w=.ok n w'∧NextV n u∧WR g G' (newRowA H0 mu sz (els++ys)).2 w'∧Ext G H w G' (newRowA H0 mu sz (els++ys)).2 w'∧VR G' w' (newRowA H0 mu sz (els++ys)).1 u:=by
    intro mu p sl sc els os G0 H0 hw0 he0 hxv hl hu h1 hv hf hno hbig;obtain⟨cap,rest,c1,c2,hr⟩:=run_append_grow (P:=P) (ty:=o.type) ht hsz h2 hd hi hb1 hz hzs ylen hf yf1' hno hbig;have hyv0:VRs G0 w ys.flatten yvs':=yvw.ext he0
    obtain⟨G',r1,r2,r3⟩:=aFp hw0 mu (sz:=sz) (els:=els++ys) (vs:=os++yvs') (rest:=rest) (e:=elem) (cap:=cap)
     (fun e he=>(List.mem_append.1 he).elim (hu e) (yu e)) (fun c hc=>by rw[List.flatten_append] at hc;exact(List.mem_append.1 hc).elim (h1 c) (y1 c)) (by rw[List.flatten_append];exact hv.append hyv0)
     (by simp[hl];exact c1) (by simp[hl];exact c2)
    refine⟨_,_,_,G',hop hxv hr,.inl rfl,r1,he0.trans r2,?_⟩
    have hlen:(els++ys).length=sl+ys.length:=by simp[hl]
    rw[hlen] at r3;exact r3
   unfold appendA at h;split at h
   · rename_i hemp
     have hnil:ys=[]:=by simpa using hemp
     have fin:∀{p:Option Addr} {sl sc:Nat} {va:AV},a.eval x=.slice p sl sc→sl≤sc→VR G w va (.slice p sl sc)→
      ∃n u w' G',(execOp a.eval o).run P w=.ok n w'∧NextV n u∧WR g G' H w'∧Ext G H w G' H w'∧VR G' w' va u:=
      fun hxv hle hva=>OpOK.pure' hw (hnone hnil hxv hle) hva
     have vx0:=vx;split at h
     · rename_i hid
       simp only[Option.some.injEq,Prod.mk.injEq] at h;obtain⟨rfl,rfl⟩:=h;rw[hid] at vx;generalize hxv:a.eval x=u at vx vx0;cases vx;exact fin hxv (Nat.le_refl _) vx0
     · rename_i hid
       simp only[Option.some.injEq,Prod.mk.injEq] at h;obtain⟨rfl,rfl⟩:=h;rw[hid] at vx;generalize hxv:a.eval x=u at vx vx0
       cases vx with
       |aT _ _ _ _ _ _ _ _ _ _ htag=>exact fin hxv htag.1 vx0
       |lstE=>exact fin hxv (Nat.le_refl _) vx0
     · rename_i hid
       simp only[Option.some.injEq,Prod.mk.injEq] at h;obtain⟨rfl,rfl⟩:=h;rw[hid] at vx;generalize hxv:a.eval x=u at vx vx0
       cases vx with
       |sl _ _ _ _ _ _ _ _ hlen _ hcap=>exact fin hxv (by omega) vx0
     · cases h
   · rename_i hemp
     have hypos:1≤ys.length:=by
      cases ys with
      |nil=>simp at hemp
      |cons _ _=>simp
     split at h
     · rename_i hid
       rw[hid] at vx;generalize hxv:a.eval x=u at vx;cases vx;split at h
       · rename_i hbig
         simp only[Option.some.injEq] at h;have :=hgrow mu (els:=[]) (os:=[]) hw (Ext.refl G H w) hxv rfl (fun e he=>by cases he) (fun c hc=>by simp at hc) (VRs.nil G w) (by simp[Builtin.firstCells]) (by omega) (by simpa using hbig);simp only[List.nil_append] at this;rw[h] at this;exact this
       · cases h
     · rename_i tag sz' els hid
       rw[hid] at vx;split at h
       · rename_i hc
         obtain⟨rfl,hbig⟩:=hc;generalize hxv:a.eval x=u at vx;obtain⟨eu,e1,_,evs',ev',ef'⟩:=gM P hw.drew (sz:=sz') (x:=.aT tag sz' els) (ys:=els) (by simp[elemsOf]) vx.drew;have evw:VRs G w els.flatten evs':=⟨ev'.1,fun j hj=>(ev'.2 j hj).mono (fun _ _ h=>h) (fun b o hi=>⟨hi,rfl⟩)⟩;have efl:=length_flatten eu
         have ef1:∀{q:Value},q=u→(Builtin.firstCells sz' els.length q).run P {w with drawn:=w.drawn+1}=.ok evs'.toArray {w with drawn:=w.drawn+1}:=fun hq=>by
          rw[hq,ef' els.length (Nat.le_refl _),ye (by rw[ev'.1,efl])]
         cases vx with
         |lstE _ _ b o' s' htag=>
          match tag,h,htag with
          |0,h,_=>cases h
          |1,h,_=>
           simp only[Option.some.injEq] at h;have :=hgrow mu (els:=[]) (os:=evs') hw (Ext.refl G H w) hxv rfl eu e1 evw (ef1 rfl) (by omega) hbig;rw[h] at this;exact this
         |aT _ _ _ b o' cap us hun hh hv htag=>
          match tag,h,htag with
          |0,h,_=>cases h
          |1,h,htag=>
           simp only[Option.some.injEq] at h;have hcl:cap=els.length:=htag.2;have :=hgrow mu (els:=els) (os:=evs') hw (Ext.refl G H w) hxv rfl eu e1 evw (ef1 rfl) (by omega) hbig;rw[h] at this;exact this
          |k+2,h,htag=>
           obtain⟨l,t1,t2',t3,t4,t5⟩:=htag.2;have hle:=htag.1;simp only at h;split at h
           · rename_i hgk
             simp only[Option.some.injEq,Prod.mk.injEq] at h;obtain⟨rfl,rfl⟩:=h;have hlive:H.live k:=⟨_,hgk,rfl⟩;have hk:=hw.kill k;have hek:=(Ext.refl G H w).kill k;by_cases hroom:els.length+ys.length≤cap
             ·
              obtain⟨ca,el,fz,q1,q2,q3⟩:=hw.room k l t1 (.inr hgk)
              have hml:ys.length*sz'+(cap -els.length -ys.length)*sz'=l.ext:=by
               rw[t5,←Nat.add_mul];congr 1;omega
              have yvl:yvs.length=ys.length*sz':=by rw[yv.1,yfl]
              have hsub:∀j,j<yvs.length→j<l.ext:=fun j hj=>by omega
              obtain⟨w',hr,hu⟩:=cL P b (o'+els.length*sz') yvs 0 w ⟨ca,el,fz,by rw[←t2'];exact q1,by omega⟩
               (fun j hj=>by rw[Nat.add_zero,←t3,←t2'];exact q3 j (hsub j hj)) (gA yv y1)
              rw[Nat.add_zero] at hu
              have himm:∀j,j<yvs.length→¬G.imm b (o'+els.length*sz'+j):=fun j hj=>by
               rw[←t3,←t2'];exact hw.immd k l t1 hlive j (hsub j hj)
              have hdis:∀id l',G.loc id=some l'→(H.set k .dead).live id→l.blk≠l'.blk∨l.base+l.ext≤l'.base∨l'.base+l'.ext≤l.base:=fun id l' hl' hv'=>by
               rcases Heap.dN.1 hv' with ⟨_,hh⟩|⟨hne,hv'⟩
               · cases hh
               · exact hw.disj k id l l' (Ne.symm hne) t1 hl' hlive hv'
              have hw1:=hk.write hu himm (fun id l' hl' hv'=>by
               rcases hdis id l' hl' hv' with hd'|hd'|hd'
               · exact .inl (by rw[←t2'];exact Ne.symm hd')
               · exact .inr (.inr (by omega))
               · exact .inr (.inl (by omega))) ⟨ca,el,fz,by rw[←t2'];exact q1⟩
              have hblk:w.heap.size≤b∨∃id0 l0,G.loc id0=some l0∧H.live id0∧l0.blk=b:=.inr ⟨k,l,t1,hlive,t2'⟩;have he1:=hek.write hu himm hw.imme hblk;obtain⟨ca',u1,u2,u3,u4⟩:=hu.row ca el fz (by rw[←t2'];exact q1)
              have hnewc:∀j,j<yvs.length→w'.cell? ⟨b,o'+els.length*sz'+j,none⟩=some (yvs.getD j undef):=fun j hj=>by
               rw[dV u1];exact u4 j hj (by have :=hsub j hj;omega)
              have hw2:=hw1.addImm b (o'+els.length*sz') yvs.length (fun j hj=>⟨_,hnewc j hj⟩) (fun id l' hl' hv'=>by
               rcases hdis id l' hl' hv' with hd'|hd'|hd'
               · exact .inl (by rw[←t2'];exact Ne.symm hd')
               · exact .inr (.inr (by omega))
               · exact .inr (.inl (by omega)))
              have he2:=he1.addImm b (o'+els.length*sz') yvs.length hblk;have he3:=he2.tK .tok ⟨b,o'+els.length*sz'+yvs.length,0,l.ext -yvs.length⟩ hw2.lt hblk
              have hw3:=hw2.tK .tok ⟨b,o'+els.length*sz'+yvs.length,0,l.ext -yvs.length⟩ (fun id l' hl' hv'=>by
               rcases hdis id l' hl' hv' with hd'|hd'|hd'
               · exact .inl (by rw[←t2'];exact hd')
               · exact .inr (.inl (by simp only;omega))
               · exact .inr (.inr (by simp only;omega))) (fun j hj hi=>by
               simp only at hj hi
               rcases hi with hi|⟨_,_,hi⟩
               · have :=hw.immd k l t1 hlive (yvs.length+j) (by omega)
                 rw[t2',t3,←Nat.add_assoc] at this;exact this hi
               · omega) (fun cs' opn' he'=>by cases he') (fun _=>⟨ca',el,fz,u1,by simp only;omega,fun j hj=>by
               simp only at hj ⊢;rw[hu.frozen (by rw[←t2'];exact q1)];have :=q3 (yvs.length+j) (by omega);rw[t2',t3,←Nat.add_assoc] at this
               exact this⟩) (fun he'=>by cases he')
              refine⟨.value (.slice (some ⟨b,o',none⟩) (els.length+ys.length) cap),.slice (some ⟨b,o',none⟩) (els.length+ys.length) cap,w',_,hop hxv ?_,.inl rfl,hw3,he3,?_⟩
              · have :=fH (P:=P) (ty:=o.type) (base:=some ⟨b,o',none⟩) (sLen:=els.length) (sCap:=cap) ht hsz h2 hd ylen yf0' hroom
                rw[this];simp only[dD,hr,Result.andThen_ok]
              · have hlen:(els++ys).length=els.length+ys.length:=by simp
                rw[←hlen]
                have hga:∀j,(els.flatten++ys.flatten).getD j undefA=if j<els.flatten.length then els.flatten.getD j undefA else ys.flatten.getD (j -els.flatten.length) undefA:=fun j=>by
                 rw[getD_eq,List.getElem?_append];split<;>rfl
                refine VR.aT (H.next+2) sz' (els++ys) b o' cap (fun j=>if j<els.flatten.length then us j else yvs.getD (j -els.flatten.length) undef)
                 (fun e he=>(List.mem_append.1 he).elim (eu e) (yu e)) (fun j hj=>?_) (fun j hj=>?_) ⟨by simp;exact hroom,?_⟩
                · rw[List.flatten_append] at hj ⊢
                  rw[hga];by_cases hj1:j<els.flatten.length
                  · rw[if_pos hj1,if_pos hj1]
                    have :=hh j hj1;refine⟨(he3.imm _ _ this.1).1,by rw[(he3.imm _ _ this.1).2];exact this.2.1,this.2.2⟩
                  · rw[if_neg hj1,if_neg hj1]
                    simp only[List.length_append] at hj
                    have hj2:j -els.flatten.length<yvs.length:=by rw[yv.1];omega
                    have hpos:o'+j=o'+els.length*sz'+(j -els.flatten.length):=by rw[efl] at hj1 ⊢;omega
                    refine⟨.inr ⟨rfl,by omega,by omega⟩,by rw[hpos];exact hnewc _ hj2,?_⟩;exact y1 _ (qA (by rw[←yv.1];exact hj2))
                · rw[List.flatten_append] at hj ⊢
                  rw[hga];by_cases hj1:j<els.flatten.length
                  · rw[if_pos hj1,if_pos hj1]
                    exact(hv j hj1).ext he3
                  · rw[if_neg hj1,if_neg hj1]
                    simp only[List.length_append] at hj;exact(yv.2 (j -els.flatten.length) (by omega)).ext he3
                · refine⟨⟨b,o'+els.length*sz'+yvs.length,0,l.ext -yvs.length⟩,by simp only[Gh.addLoc,Heap.aS,if_true],rfl,?_,rfl,?_⟩
                  · simp only[hlen,Nat.add_mul];omega
                  · simp only[hlen]
                    rw[yvl,←hml,Nat.add_sub_cancel_left];congr 1;omega
             ·
              exact hgrow false (els:=els) (os:=evs') hk hek hxv rfl eu e1 evw (ef1 rfl) hroom hbig
           · cases h
       · cases h
     · rename_i id sz' off len cap hid
       rw[hid] at vx;split at h
       · rename_i hc
         obtain⟨rfl,hbig,hsz1⟩:=hc;split at h
         · rename_i cs opn hg
           generalize hxv:a.eval x=u at vx
           cases vx with
           |sl _ _ _ _ _ cap' l hl hlen hin hcap=>
            obtain⟨a1,a2,a3,a4,a5⟩:=hw.cells id l cs opn hl hg;obtain⟨ca,el,fz,b1,b2,b3⟩:=hw.room id l hl (.inl ⟨cs,opn,hg⟩);split at h
            · rename_i hroom
              split at h
              · rename_i hinb
                simp only[Option.some.injEq,Prod.mk.injEq] at h;obtain⟨rfl,rfl⟩:=h
                have yvl:yvs.length=ys.length*sz':=by rw[yv.1,yfl]
                have hm1:len*sz'+ys.length*sz'≤cap*sz':=by rw[←Nat.add_mul];exact Nat.mul_le_mul_right _ hroom
                obtain⟨w',hr,hu⟩:=cL P l.blk (l.base+off+len*sz') yvs 0 w ⟨ca,el,fz,b1,by omega⟩
                 (fun j hj=>by rw[Nat.add_zero,Nat.add_assoc,Nat.add_assoc];exact b3 (off+(len*sz'+j)) (by omega)) (gA yv y1)
                rw[Nat.add_zero,Nat.add_assoc] at hu;obtain⟨r1,r2⟩:=hw.store hl hg yv y1 (by rw[yfl];omega) hu;refine⟨.value (.slice (some ⟨l.blk,l.base+off,none⟩) (len+ys.length) cap'),.slice (some ⟨l.blk,l.base+off,none⟩) (len+ys.length) cap',w',G,hop hxv ?_,.inl rfl,r1,r2,VR.sl id sz' off (len+ys.length) cap cap' l hl hroom hin hcap⟩;have :=fH (P:=P) (ty:=o.type) (base:=some ⟨l.blk,l.base+off,none⟩) (sLen:=len) (sCap:=cap') ht hsz h2 hd ylen yf0' (by omega);rw[this];simp only[dD,hr,Result.andThen_ok]
              · cases h
            · rename_i hroom
              split at h
              · rename_i hc2
                obtain⟨c1,c2⟩:=hc2
                have hexact:cap'=cap:=by
                 rcases hcap with hcap|⟨p1,p2,p3⟩
                 · exact hcap
                 · rcases c2 with c2|c2
                   · have :=a3 c2
                     have hms:cap'*sz'=cap*sz':=by omega
                     exact Nat.eq_of_mul_eq_mul_right hsz1 hms
                   · omega
                subst hexact
                obtain⟨eu,e1,_,evs',ev',ef'⟩:=gM P hw.drew (sz:=sz') (x:=.sl id sz' off len cap') (ys:=chunkF sz' len (cs.drop off)) (by
                 have hca:H.cellsAt id=some cs:=by simp[Heap.cellsAt,hg]
                 simp[elemsOf,hca,c1]) (VR.sl id sz' off len cap' cap' l hl hlen hin hcap:VR G w _ _).drew
                have evw:VRs G w (chunkF sz' len (cs.drop off)).flatten evs':=⟨ev'.1,fun j hj=>(ev'.2 j hj).mono (fun _ _ h=>h) (fun b o hi=>⟨hi,rfl⟩)⟩;obtain⟨f1,f2,f3⟩:=dW sz' len (cs.drop off) (by simp;omega);have efl:=length_flatten eu
                have ef1:(Builtin.firstCells sz' len (.slice (some ⟨l.blk,l.base+off,none⟩) len cap')).run P {w with drawn:=w.drawn+1}=.ok evs'.toArray {w with drawn:=w.drawn+1}:=by
                 rw[ef' len (by omega),ye (by rw[ev'.1,efl,f2])]
                simp only[Option.some.injEq] at h;have :=hgrow mu (els:=chunkF sz' len (cs.drop off)) (os:=evs') hw (Ext.refl G H w) hxv f2 eu e1 evw ef1 (by omega) hbig;rw[h] at this;exact this
              · split at h
                · rename_i hc3
                  obtain⟨hmu,hoff,hlc,hcs⟩:=hc3;subst hmu hoff hlc;simp only[Option.some.injEq,Prod.mk.injEq] at h;obtain⟨rfl,rfl⟩:=h
                  obtain⟨eu,e1,_,evs',ev',ef'⟩:=gM P hw.drew (sz:=sz') (x:=.sl id sz' 0 len len) (ys:=chunkF sz' len (cs.drop 0)) (by
                   have hca:H.cellsAt id=some cs:=by simp[Heap.cellsAt,hg]
                   simp[elemsOf,hca,hcs]) (VR.sl id sz' 0 len len cap' l hl hlen hin hcap:VR G w _ _).drew
                  have evw:VRs G w (chunkF sz' len (cs.drop 0)).flatten evs':=⟨ev'.1,fun j hj=>(ev'.2 j hj).mono (fun _ _ h=>h) (fun b o hi=>⟨hi,rfl⟩)⟩;obtain⟨f1,f2,f3⟩:=dW sz' len (cs.drop 0) (by simp;omega);have efl:=length_flatten eu
                  have ef1:(Builtin.firstCells sz' len (.slice (some ⟨l.blk,l.base+0,none⟩) len cap')).run P {w with drawn:=w.drawn+1}=.ok evs'.toArray {w with drawn:=w.drawn+1}:=by
                   rw[ef' len (by omega),ye (by rw[ev'.1,efl,f2])]
                  have fcs:(chunkF sz' len (cs.drop 0)).flatten=cs:=by rw[f1,List.drop_zero,List.take_of_length_le (by omega)]
                  have hlive:H.live id:=⟨_,hg,rfl⟩;have hk:=hw.kill id;have hek:=(Ext.refl G H w).kill id;by_cases hroom2:len+ys.length≤cap'
                  ·
                   have hcap2:len*sz'=l.siz∧len≤cap'∧cap'*sz'=l.ext:=by
                    rcases hcap with hh|⟨p1,p2,p3⟩
                    · omega
                    · exact⟨by omega,p2,by omega⟩
                   obtain⟨g1,g2,g3⟩:=hcap2
                   have yvl:yvs.length=ys.length*sz':=by rw[yv.1,yfl]
                   have hm1:len*sz'+ys.length*sz'≤cap'*sz':=by rw[←Nat.add_mul];exact Nat.mul_le_mul_right _ hroom2
                   obtain⟨w',hr,hu⟩:=cL P l.blk (l.base+0+len*sz') yvs 0 w ⟨ca,el,fz,b1,by omega⟩
                    (fun j hj=>by rw[Nat.add_zero,Nat.add_zero,Nat.add_assoc];exact b3 (len*sz'+j) (by omega)) (gA yv y1)
                   rw[Nat.add_zero,Nat.add_zero] at hu
                   have himm:∀j,j<yvs.length→¬G.imm l.blk (l.base+len*sz'+j):=fun j hj=>by
                    rw[Nat.add_assoc];exact hw.immd id l hl hlive _ (by omega)
                   have hdis:∀id' l',G.loc id'=some l'→(H.set id .dead).live id'→l.blk≠l'.blk∨l.base+l.ext≤l'.base∨l'.base+l'.ext≤l.base:=fun id' l' hl' hv'=>by
                    rcases Heap.dN.1 hv' with ⟨_,hh⟩|⟨hne,hv'⟩
                    · cases hh
                    · exact hw.disj id id' l l' (Ne.symm hne) hl hl' hlive hv'
                   have hw1:=hk.write hu himm (fun id' l' hl' hv'=>by
                    rcases hdis id' l' hl' hv' with hd'|hd'|hd'
                    · exact .inl (Ne.symm hd')
                    · exact .inr (.inr (by omega))
                    · exact .inr (.inl (by omega))) ⟨ca,el,fz,b1⟩
                   have hblk:w.heap.size≤l.blk∨∃id0 l0,G.loc id0=some l0∧H.live id0∧l0.blk=l.blk:=.inr ⟨id,l,hl,hlive,rfl⟩;have he1:=hek.write hu himm hw.imme hblk;obtain⟨ca',u1,u2,u3,u4⟩:=hu.row ca el fz b1
                   have hnewc:∀j,j<yvs.length→w'.cell? ⟨l.blk,l.base+len*sz'+j,none⟩=some (yvs.getD j undef):=fun j hj=>by
                    rw[dV u1];exact u4 j hj (by omega)
                   have hll:(cs++ys.flatten).length=(len+ys.length)*sz':=by rw[List.length_append,hcs,yfl,Nat.add_mul]
                   have hga:∀j,(cs++ys.flatten).getD j undefA=if j<cs.length then cs.getD j undefA else ys.flatten.getD (j -cs.length) undefA:=fun j=>by
                    rw[getD_eq,List.getElem?_append];split<;>rfl
                   have he3:=he1.tK (.cells (cs++ys.flatten) true) ⟨l.blk,l.base,(cs++ys.flatten).length,l.ext⟩ hw1.lt hblk
                   have hw3:=hw1.tK (.cells (cs++ys.flatten) true) ⟨l.blk,l.base,(cs++ys.flatten).length,l.ext⟩ hdis
                    (fun j hj hi=>hw.immd id l hl hlive j hj hi)
                    (fun cs' opn' he'=>by
                      simp only[AObj.cells.injEq] at he';obtain⟨rfl,rfl⟩:=he';refine⟨rfl,(by simp only;rw[hll,Nat.add_mul];omega),(fun hh=>(by cases hh)),fun c hc=>(List.mem_append.1 hc).elim (a4 c) (y1 c),fun j hj=>?_⟩;rw[hga];by_cases hj1:j<cs.length
                      · rw[if_pos hj1]
                        obtain⟨u,v1,v2⟩:=a5 j hj1;exact⟨u,(show w'.cell? ⟨l.blk,l.base+j,none⟩=some u from hu.cell (.inr (.inl (by omega))) v1),v2.ext he1⟩
                      · rw[if_neg hj1]
                        simp only[List.length_append] at hj
                        have hj2:j -cs.length<yvs.length:=by rw[yv.1];omega
                        have hpos:l.base+j=l.base+len*sz'+(j -cs.length):=by omega
                        refine⟨_,(show w'.cell? ⟨l.blk,l.base+j,none⟩=_ from ?_),(yv.2 (j -cs.length) (by omega)).ext he1⟩;rw[hpos]
                        exact hnewc _ hj2)
                    (fun _=>⟨ca',el,fz,u1,by simp only;omega,fun j hj=>by
                      simp only at hj ⊢;rw[hu.frozen b1]
                      exact b3 j hj⟩) (fun he'=>by cases he')
                   refine⟨.value (.slice (some ⟨l.blk,l.base+0,none⟩) (len+ys.length) cap'),.slice (some ⟨l.blk,l.base+0,none⟩) (len+ys.length) cap',w',_,hop hxv ?_,.inl rfl,hw3,he3,?_⟩
                   · have :=fH (P:=P) (ty:=o.type) (base:=some ⟨l.blk,l.base+0,none⟩) (sLen:=len) (sCap:=cap') ht hsz h2 hd ylen yf0' hroom2
                     rw[this];simp only[dD,hr,Result.andThen_ok]
                   · exact VR.sl H.next sz' 0 (len+ys.length) (len+ys.length) cap' ⟨l.blk,l.base,(cs++ys.flatten).length,l.ext⟩ (by simp only[Gh.addLoc,Heap.aS,if_true]) (Nat.le_refl _)
                      (by simp only;rw[hll];omega) (.inr ⟨by simp only;rw[hll];omega,hroom2,by simp only;omega⟩)
                  ·
                   have hn:=hgrow true (els:=chunkF sz' len (cs.drop 0)) (os:=evs') hk hek hxv f2 eu e1 evw ef1 hroom2 hbig
                   have e0:newRowA (H.set id .dead) true sz' (chunkF sz' len (cs.drop 0)++ys)=(.sl H.next sz' 0 (len+ys.length) (len+ys.length),(H.set id .dead).alloc (.cells (cs++ys.flatten) true)):=by
                    simp only[newRowA,if_true,List.length_append,f2,List.flatten_append,fcs,Heap.aS]
                   rw[e0] at hn;exact hn
                · cases h
         · cases h
       · cases h
     · cases h
 · cases h
end
end
end Go.Av
