/-
  Parts of the proof of statement 4: AvSym, AvStep, AvOwn
-/
import Derived.Test.YtjiignefffdelaaGreatDoorA16
set_option linter.unusedVariables false
set_option linter.unusedSimpArgs false
set_option linter.unusedSectionVars false
namespace Go.Av
open Go
section
abbrev Slt:=Nat→AV
abbrev FQ:=AEx→Slt→List Dfr→Heap→Prop
def evF (g:Genv) (f:Slt):Arg→AV
 |.tmp t=>f t
 |.const v=>v
 |.glob n=>match g n with
  |some cs=>.pl cs
  |none=>undefA
def upd (f:Slt) (d:Nat) (v:AV):Slt:=fun t=>if t=d then v else f t
theorem gD (f:Slt) (d:Nat) (v:AV):upd f d v d=v:=by simp[upd]
theorem eT (f:Slt) {d t:Nat} (v:AV) (h:t≠d):upd f d v t=f t:=by simp[upd,h]
def putF (n:Nat) (f:Slt):Option Nat→AV→Slt
 |none,_=>f
 |some d,v=>if d<n then upd f d v else f
def wantedF (f:Slt) (o:ROper):Bool:=
 match o.guard with
 |none=>true
 |some (d,b)=>match f d with
  |.bool c=>c==b
  |_=>false
def stepK (r:Option (AV×Heap)) (k:AV→Heap→Prop):Prop:=
 match r with
 |some (v,H)=>k v H
 |none=>False
def FOps (P:Program) (g:Genv) (n:Nat):List ROper→Slt→List Dfr→Heap→FQ→Prop
 |[],f,ds,H,Q=>Q .normal f ds H
 |o::r,f,ds,H,Q=>
  if wantedF f o then
   match o.op with
   |.call c azs=>∃out H',CallS P g (evF g f c) (azs.map (evF g f)) H out H'∧
     match out with
     |.ret v=>FOps P g n r (putF n f o.dst v) ds H' Q
     |.pan v=>Q (.panic v) f ds H'
   |.panic x=>∃t v,evF g f x=.iface t v∧Q (.panic (.iface t v)) f ds H
   |.deferc c azs=>∃p,calleeA (evF g f c)=some p∧FOps P g n r (putF n f o.dst undefA) (.call p.1 (p.2.1++azs.map (evF g f)++p.2.2)::ds) H Q
   |.mrange x=>∃m es,evF g f x=.map m∧H.get m=some (.map es)∧∀bs c mb,bs.length=es.length→bs.Nodup→
     FOps P g n r (putF n f o.dst (.ref H.next 0)) ds ((H.set m (.mapf es bs c mb)).alloc (.iter m mb c [])) Q
   |.mnext x=>∃it m mb c seen es bs,evF g f x=.ref it 0∧H.get it=some (.iter m mb c seen)∧H.get m=some (.mapf es bs c mb)∧
     ((∀b∈bs,b∈seen)→FOps P g n r (putF n f o.dst (.tup [.bool false])) ds H Q)∧
     ∀j,j<bs.length→bs.getD j 0∉seen→FOps P g n r (putF n f o.dst (.tup [.bool true,(es.getD j (undefA,undefA)).1,(es.getD j (undefA,undefA)).2])) ds (H.set it (.iter m mb c (seen++[bs.getD j 0]))) Q
   |.mentry x=>∃it m mb c seen es bs j,evF g f x=.ref it 0∧H.get it=some (.iter m mb c (seen++[bs.getD j 0]))∧H.get m=some (.mapf es bs c mb)∧j<bs.length∧
     FOps P g n r (putF n f o.dst (.tup [(es.getD j (undefA,undefA)).1,(es.getD j (undefA,undefA)).2])) ds H Q
   |op=>stepK (aop (evF g f) H op) fun v H'=>FOps P g n r (putF n f o.dst v) ds H' Q
  else FOps P g n r (putF n f o.dst undefA) ds H Q
def FQStep (P:Program) (g:Genv) (r:ROper) (f:Slt) (H:Heap) (v:AV) (H':Heap):Prop:=
 match r.op with
 |.call c azs=>∃p,calleeA (evF g f c)=some p∧Sound P g p.1 (p.2.1++azs.map (evF g f)++p.2.2) H (.ret v) H'
 |.panic _|.deferc _ _=>False
 |op=>aop (evF g f) H op=some (v,H')
def FDr (P:Program) (g:Genv) (n:Nat) (pairs:List (Nat×Nat)) (base:Nat):Nat→Nat→List ROper→List (Nat×Nat)→List (Nat×Heap×Heap)→Slt→Heap→(Slt→Heap→Prop)→Prop
 |_,_,[],_,_,f,H,Q=>Q f H
 |i,k,r::rs,rd,ef,f,H,Q=>
  if wantedF f r then
   if r.op.fresh then
    ∃ob val,fop (evF g f) r.op=some (ob,val)∧(∀x∈ef,(i,x.1)∈pairs→x.2.1.get (base+k)=x.2.2.get (base+k))∧
     FDr P g n pairs base (i+1) (k+1) rs ((i,base+k)::rd) ef (putF n f r.dst (val (base+k))) (H.set (base+k) ob) Q
   else if r.op.eff then
    ∃v H',FQStep P g r f H v H'∧H.next≤H'.next∧(∀x∈rd,(x.1,i)∈pairs→H.get x.2=H'.get x.2)∧
     FDr P g n pairs base (i+1) k rs rd ((i,H,H')::ef) (putF n f r.dst v) H' Q
   else
    ∃v,FQStep P g r f H v H∧(∀id,r.op.readsId (evF g f)=some id→∀x∈ef,(i,x.1)∈pairs→x.2.1.get id=x.2.2.get id)∧
     FDr P g n pairs base (i+1) k rs (match r.op.readsId (evF g f) with|some id=>(i,id)::rd|none=>rd) ef (putF n f r.dst v) H Q
  else FDr P g n pairs base (i+1) (if r.op.fresh then k+1 else k) rs rd ef (putF n f r.dst undefA) H Q
def thenF (next:Slt→List Dfr→Heap→Prop) (Q:FQ):FQ
 |.normal,f,ds,H=>next f ds H
 |e,f,ds,H=>Q e f ds H
def inBlockF (id:Nat) (Q:FQ):FQ
 |.exit i,f,ds,H=>if i=id then Q .normal f ds H else Q (.exit i) f ds H
 |e,f,ds,H=>Q e f ds H
def putAllF (n:Nat) (f:Slt):List (Nat×AV)→Slt
 |[]=>f
 |(t,v)::r=>putAllF n (putF n f (some t) v) r
def roundEndF (id:Nat) (out:Out) (H3:Heap):FQ
 |.normal,_,ds,H=>ds=[]∧out=.ret (.bool true)∧∃k sn,H.get id=some (.loop k sn .busy)∧H3=H.set id (.loop k sn .ready)
 |.ret,_,ds,H=>ds=[]∧out=.ret (.bool false)∧∃k sn,H.get id=some (.loop k sn .busy)∧H3=H.set id (.loop k sn (.done .ret))
 |.exit i,_,ds,H=>ds=[]∧out=.ret (.bool false)∧∃k sn,H.get id=some (.loop k sn .busy)∧H3=H.set id (.loop k sn (.done (.exit i)))
 |.panic _,_,_,_=>False
def loopEndF (st:LSt) (f:Slt) (ds:List Dfr) (H:Heap) (Q:FQ):Prop:=
 match st with
 |.ready=>Q .normal f ds H
 |.done .ret=>Q .ret f ds H
 |.done (.exit i)=>Q (.exit i) f ds H
 |_=>False
def LF (n:Nat) (f:Slt):List AV:=(List.range n).map f
def FC (P:Program) (g:Genv) (n:Nat):ACode→Slt→List Dfr→Heap→FQ→Prop
 |.skip,f,ds,H,Q=>Q .normal f ds H
 |.ops rl,f,ds,H,Q=>FOps P g n rl f ds H Q
 |.draw rl pairs,f,ds,H,Q=>freeAt H (rl.countP (·.op.fresh))=true∧
   FDr P g n pairs H.next 0 0 rl [] [] f {H with next:=H.next+rl.countP (·.op.fresh)} fun f' H'=>Q .normal f' ds H'
 |.seq a b,f,ds,H,Q=>FC P g n a f ds H (thenF (fun f ds H=>FC P g n b f ds H Q) Q)
 |.cond c a b,f,ds,H,Q=>∃t,evF g f c=.bool t∧if t then FC P g n a f ds H Q else FC P g n b f ds H Q
 |.block id a,f,ds,H,Q=>FC P g n a f ds H (inBlockF id Q)
 |.loop a,f,ds,H,Q=>∃(I:Nat→Slt→List Dfr→Heap→Prop) (m:Nat),I m f ds H∧
   ∀m f ds H,I m f ds H→FC P g n a f ds H (thenF (fun f ds H=>∃k,k<m∧I k f ds H) Q)
 |.exit id,f,ds,H,Q=>Q (.exit id) f ds H
 |.ret,f,ds,H,Q=>Q .ret f ds H
 |.rangeF c ps asg body,f,ds,H,Q=>∃fid fs cs v He k' s' st Hf,evF g f c=.func (.func fid) fs cs∧
   Sound P g fid (fs++[.yield (H.next+1)]++cs) ((H.alloc .dfd).alloc (.loop ⟨ps,asg,body⟩ (LF n f) .ready)) (.ret v) He∧He.get (H.next+1)=some (.loop k' s' st)∧lessLoop He (H.next+1) Hf∧
   loopEndF st f (.mark H.next::ds) Hf Q
def FRound (P:Program) (g:Genv) (n:Nat) (k:LKey) (f:Slt) (id:Nat) (args:List AV) (H2:Heap) (out:Out) (H3:Heap):Prop:=
 FC P g n k.asg (putAllF n f (k.ps.zip args)) [] H2 fun e f1 ds1 H1=>match e with
  |.normal=>ds1=[]∧∃k1 sn1,H1.get id=some (.loop k1 sn1 .ready)∧FC P g n k.body f1 [] (H1.set id (.loop k1 sn1 .busy)) (roundEndF id out H3)
  |_=>False
def FBnd (n:Nat) (f:Slt):Prop:=∀t,n≤t→f t=undefA
theorem FBnd.put {n:Nat} {f:Slt} (h:FBnd n f) (dst:Option Nat) (v:AV):FBnd n (putF n f dst v):=by
 cases dst with
 |none=>exact h
 |some d=>
  simp only[putF];split
  · intro t ht
    rw[eT f v (by omega)];exact h t ht
  · exact h
theorem yW {n:Nat} {f:Slt} (h:FBnd n f) (t:Nat):(LF n f).getD t undefA=f t:=by
 unfold LF;rw[getD_eq,List.getElem?_map];by_cases ht:t<n
 · simp[ht]
 · rw[h t (by omega)]
   simp[ht]
theorem eZ {n:Nat} {f:Slt} (dst:Option Nat) (v:AV):LF n (putF n f dst v)=putA (LF n f) dst v:=by
 cases dst with
 |none=>rfl
 |some d=>
  simp only[putF,putA,LF];apply List.ext_getElem?;intro i;rw[List.getElem?_set];simp only[List.getElem?_map,List.length_map,List.length_range];by_cases hd:d<n
  · rw[if_pos hd]
    by_cases hi:d=i
    · subst hi
      simp[hd,gD]
    · rw[if_neg hi]
      by_cases hin:i<n
      · simp[hin,eT f v (Ne.symm hi)]
      · simp[hin]
  · rw[if_neg hd]
    by_cases hi:d=i
    · subst hi
      simp[hd]
    · rw[if_neg hi]
theorem lL {n:Nat} {f:Slt} (h:FBnd n f) (g:Genv):evF g f=Arg.eval g (LF n f):=by
 funext x
 cases x with
 |tmp t=>exact(yW h t).symm
 |const v=>rfl
 |glob n=>rfl
theorem vX {n:Nat} {f:Slt} (h:FBnd n f) (o:ROper):wantedF f o=wantedA (LF n f) o:=by
 unfold wantedF wantedA
 cases o.guard with
 |none=>rfl
 |some p=>
  simp only[yW h];cases f p.1<;>rfl
theorem qX {n:Nat}:∀(l:List (Nat×AV)) (f:Slt),putAll (LF n f) l=LF n (putAllF n f l)
 |[],f=>rfl
 |(t,v)::l,f=>by
  rw[putAll,putAllF,←qX l];congr 1;rw[eZ];rfl
theorem FBnd.putAll {n:Nat}:∀(l:List (Nat×AV)) {f:Slt},FBnd n f→FBnd n (putAllF n f l)
 |[],_,h=>h
 |(t,v)::l,_,h=>FBnd.putAll l (h.put (some t) v)
def liftQ (n:Nat) (Q:FQ):AQ:=fun e s ds H=>∃f,s=LF n f∧FBnd n f∧Q e f ds H
section
variable {P:Program} {g:Genv} {n:Nat}
theorem cY:∀(rl:List ROper) (f:Slt) (ds:List Dfr) (H:Heap) (Q:FQ),FBnd n f→FOps P g n rl f ds H Q→AOps P g rl (LF n f) ds H (liftQ n Q)
 |[],f,ds,H,Q,hb,h=>⟨f,rfl,hb,h⟩
 |o::r,f,ds,H,Q,hb,h=>by
  unfold FOps at h;unfold AOps;rw[vX hb,lL hb] at h;split at h
  · rename_i hw
    rw[if_pos hw];split at h
    · rename_i c azs hop
      obtain⟨out,H',h2,h3⟩:=h;rw[hop];refine⟨out,H',h2,?_⟩
      cases out with
      |ret v=>
       have :=cY r _ ds H' Q (hb.put o.dst v) h3
       rwa [eZ] at this
      |pan v=>exact⟨f,rfl,hb,h3⟩
    · rename_i x hop
      obtain⟨t,v,h1,h2⟩:=h;rw[hop];exact⟨t,v,h1,f,rfl,hb,h2⟩
    · rename_i c azs hop
      obtain⟨p,h1,h2⟩:=h;rw[hop];refine⟨p,h1,?_⟩;have :=cY r _ _ H Q (hb.put o.dst undefA) h2
      rwa [eZ] at this
    · rename_i x hop
      obtain⟨m,es,h1,h2,h3⟩:=h;rw[hop];refine⟨m,es,h1,h2,fun bs c mb k1 k2=>?_⟩;have :=cY r _ _ _ Q (hb.put o.dst _) (h3 bs c mb k1 k2)
      rwa [eZ] at this
    · rename_i x hop
      obtain⟨it,m,mb,c,seen,es,bs,h1,h2,h3,h4,h5⟩:=h;rw[hop];refine⟨it,m,mb,c,seen,es,bs,h1,h2,h3,fun k=>?_,fun j k1 k2=>?_⟩
      · have :=cY r _ _ _ Q (hb.put o.dst _) (h4 k)
        rwa [eZ] at this
      · have :=cY r _ _ _ Q (hb.put o.dst _) (h5 j k1 k2)
        rwa [eZ] at this
    · rename_i x hop
      obtain⟨it,m,mb,c,seen,es,bs,j,h1,h2,h3,h4,h5⟩:=h;rw[hop];refine⟨it,m,mb,c,seen,es,bs,j,h1,h2,h3,h4,?_⟩;have :=cY r _ _ _ Q (hb.put o.dst _) h5
      rwa [eZ] at this
    · rename_i n1 n2 n3 n4 n5 n6
      unfold stepK at h;split at h
      · rename_i v H' ha
        have :=cY r _ ds H' Q (hb.put o.dst v) h;rw[eZ] at this;split
        · rename_i c azs hop;exact absurd hop (n1 c azs)
        · rename_i x hop;exact absurd hop (n2 x)
        · rename_i c azs hop;exact absurd hop (n3 c azs)
        · rename_i x hop;exact absurd hop (n4 x)
        · rename_i x hop;exact absurd hop (n5 x)
        · rename_i x hop;exact absurd hop (n6 x)
        · exact⟨v,H',ha,this⟩
      · exact h.elim
  · rename_i hw
    rw[if_neg hw];have :=cY r _ ds H Q (hb.put o.dst undefA) h
    rwa [eZ] at this
theorem wX {f:Slt} (hb:FBnd n f) {r:ROper} {H H':Heap} {v:AV} (h:FQStep P g r f H v H'):QStep P g r (LF n f) H v H':=by
 unfold FQStep at h;unfold QStep
 rwa [lL hb] at h
theorem jD {pairs:List (Nat×Nat)} {base:Nat} {Q:Slt→Heap→Prop}:∀(rl:List ROper) (i k:Nat) (rd:List (Nat×Nat)) (ef:List (Nat×Heap×Heap)) (f:Slt) (H:Heap),FBnd n f→
 FDr P g n pairs base i k rl rd ef f H Q→ADr P g pairs base i k rl rd ef (LF n f) H (fun s H=>∃f,s=LF n f∧FBnd n f∧Q f H)
 |[],i,k,rd,ef,f,H,hb,h=>⟨f,rfl,hb,h⟩
 |r::rs,i,k,rd,ef,f,H,hb,h=>by
  unfold FDr at h;unfold ADr;rw[vX hb] at h;split at h
  · rename_i hw
    rw[if_pos hw];split at h
    · rename_i hf
      rw[if_pos hf];obtain⟨ob,val,h1,h2,h3⟩:=h;rw[lL hb] at h1;refine⟨ob,val,h1,h2,?_⟩;have :=jD rs _ _ _ _ _ _ (hb.put r.dst _) h3
      rwa [eZ] at this
    · rename_i hf
      rw[if_neg hf];split at h
      · rename_i he
        rw[if_pos he];obtain⟨v,H',h1,h2,h3,h4⟩:=h;refine⟨v,H',wX hb h1,h2,h3,?_⟩;have :=jD rs _ _ _ _ _ _ (hb.put r.dst _) h4
        rwa [eZ] at this
      · rename_i he
        rw[if_neg he];obtain⟨v,h1,h2,h3⟩:=h;refine⟨v,wX hb h1,by rw[←lL hb];exact h2,?_⟩;have :=jD rs _ _ _ _ _ _ (hb.put r.dst _) h3;rw[eZ] at this;rw[←lL hb];exact this
  · rename_i hw
    rw[if_neg hw];have :=jD rs _ _ _ _ _ _ (hb.put r.dst _) h
    rwa [eZ] at this
theorem gR:∀(c:ACode) (f:Slt) (ds:List Dfr) (H:Heap) (Q:FQ),FBnd n f→FC P g n c f ds H Q→AC P g c (LF n f) ds H (liftQ n Q):=by
 intro c
 induction c with
 |skip=>exact fun f ds H Q hb h=>⟨f,rfl,hb,h⟩
 |ops rl=>exact fun f ds H Q hb h=>cY rl f ds H Q hb h
 |draw rl pairs=>exact fun f ds H Q hb h=>⟨h.1,jD rl 0 0 [] [] f _ hb h.2⟩
 |seq a b iha ihb=>
  intro f ds H Q hb h;show AC P g a (LF n f) ds H _;refine cC (fun e s ds H hq=>?_) (iha f ds H _ hb h);obtain⟨f',rfl,hb',hq⟩:=hq
  cases e with
  |normal=>exact ihb f' ds H Q hb' hq
  |_=>exact⟨f',rfl,hb',hq⟩
 |cond c a b iha ihb=>
  intro f ds H Q hb h;obtain⟨t,h1,h2⟩:=h;rw[lL hb] at h1;refine⟨t,h1,?_⟩
  cases t with
  |true=>exact iha f ds H Q hb h2
  |false=>exact ihb f ds H Q hb h2
 |block id a ih=>
  intro f ds H Q hb h;show AC P g a (LF n f) ds H _;refine cC (fun e s ds H hq=>?_) (ih f ds H _ hb h);obtain⟨f',rfl,hb',hq⟩:=hq
  cases e with
  |exit i=>
   simp only[inBlockF] at hq;simp only[inBlockA];split
   · rename_i hi;rw[if_pos hi] at hq;exact⟨f',rfl,hb',hq⟩
   · rename_i hi;rw[if_neg hi] at hq;exact⟨f',rfl,hb',hq⟩
  |_=>exact⟨f',rfl,hb',hq⟩
 |loop a ih=>
  intro f ds H Q hb h;obtain⟨I,m,h0,hI⟩:=h;refine⟨fun m s ds H=>∃f,s=LF n f∧FBnd n f∧I m f ds H,m,⟨f,rfl,hb,h0⟩,?_⟩;rintro m s ds1 H1 ⟨f1,rfl,hb1,h1⟩;refine cC (fun e s ds H hq=>?_) (ih f1 ds1 H1 _ hb1 (hI m f1 ds1 H1 h1));obtain⟨f',rfl,hb',hq⟩:=hq
  cases e with
  |normal=>
   obtain⟨k,hk,hq⟩:=hq;exact⟨k,hk,f',rfl,hb',hq⟩
  |_=>exact⟨f',rfl,hb',hq⟩
 |exit id=>exact fun f ds H Q hb h=>⟨f,rfl,hb,h⟩
 |ret=>exact fun f ds H Q hb h=>⟨f,rfl,hb,h⟩
 |rangeF c ps a b iha ihb=>
  intro f ds H Q hb h;obtain⟨fid,fs,cs,v,He,k',s',st,Hf,h1,h2,h3,h4,h5⟩:=h;rw[lL hb] at h1;refine⟨fid,fs,cs,v,He,k',s',st,Hf,h1,h2,h3,h4,?_⟩
  cases st with
  |ready=>exact⟨f,rfl,hb,h5⟩
  |done e=>cases e<;>exact⟨f,rfl,hb,h5⟩
  |busy=>exact h5.elim
  |over _=>exact h5.elim
theorem aJl {rl:List ROper}:∀{f:Slt} {ds:List Dfr} {H:Heap} {Q Q':FQ},(∀e f ds H,Q e f ds H→Q' e f ds H)→FOps P g n rl f ds H Q→FOps P g n rl f ds H Q':=by
 induction rl with
 |nil=>exact fun hq h=>hq _ _ _ _ h
 |cons o r ih=>
  intro f ds H Q Q' hq h;unfold FOps at h ⊢;split
  · rename_i hw
    rw[if_pos hw] at h;split at h
    · obtain⟨out,H',h1,h3⟩:=h
      refine⟨out,H',h1,?_⟩
      cases out with
      |ret v=>exact ih hq h3
      |pan v=>exact hq _ _ _ _ h3
    · obtain⟨t,v,h1,h2⟩:=h
      exact⟨t,v,h1,hq _ _ _ _ h2⟩
    · obtain⟨p,h1,h2⟩:=h
      exact⟨p,h1,ih hq h2⟩
    · obtain⟨m,es,h1,h2,h3⟩:=h
      exact⟨m,es,h1,h2,fun bs c mb k1 k2=>ih hq (h3 bs c mb k1 k2)⟩
    · obtain⟨it,m,mb,c,seen,es,bs,h1,h2,h3,h4,h5⟩:=h
      exact⟨it,m,mb,c,seen,es,bs,h1,h2,h3,fun k=>ih hq (h4 k),fun j k1 k2=>ih hq (h5 j k1 k2)⟩
    · obtain⟨it,m,mb,c,seen,es,bs,j,h1,h2,h3,h4,h5⟩:=h
      exact⟨it,m,mb,c,seen,es,bs,j,h1,h2,h3,h4,ih hq h5⟩
    · unfold stepK at h ⊢
      split at h
      · exact ih hq h
      · exact h.elim
  · rename_i hw
    rw[if_neg hw] at h;exact ih hq h
theorem aBd {pairs:List (Nat×Nat)} {base:Nat} {rl:List ROper}:∀{i k:Nat} {rd:List (Nat×Nat)} {ef:List (Nat×Heap×Heap)} {f:Slt} {H:Heap} {Q Q':Slt→Heap→Prop},(∀f H,Q f H→Q' f H)→
 FDr P g n pairs base i k rl rd ef f H Q→FDr P g n pairs base i k rl rd ef f H Q':=by
 induction rl with
 |nil=>exact fun hq h=>hq _ _ h
 |cons r rs ih=>
  intro i k rd ef f H Q Q' hq h;unfold FDr at h ⊢;split
  · rename_i hw
    rw[if_pos hw] at h;split
    · rename_i hf
      rw[if_pos hf] at h;obtain⟨ob,val,h1,h2,h3⟩:=h;exact⟨ob,val,h1,h2,ih hq h3⟩
    · rename_i hf
      rw[if_neg hf] at h;split
      · rename_i he
        rw[if_pos he] at h;obtain⟨v,H',h1,h2,h3,h4⟩:=h;exact⟨v,H',h1,h2,h3,ih hq h4⟩
      · rename_i he
        rw[if_neg he] at h;obtain⟨v,h1,h2,h3⟩:=h;exact⟨v,h1,h2,ih hq h3⟩
  · rename_i hw
    rw[if_neg hw] at h;exact ih hq h
theorem dG {c:ACode}:∀{f:Slt} {ds:List Dfr} {H:Heap} {Q Q':FQ},(∀e f ds H,Q e f ds H→Q' e f ds H)→FC P g n c f ds H Q→FC P g n c f ds H Q':=by
 induction c with
 |skip=>exact fun hq h=>hq _ _ _ _ h
 |ops rl=>exact fun hq h=>aJl hq h
 |draw rl pairs=>exact fun hq h=>⟨h.1,aBd (fun s H=>hq _ _ _ _) h.2⟩
 |seq a b iha ihb=>
  intro f ds H Q Q' hq h;refine iha (fun e f ds H h=>?_) h
  cases e with
  |normal=>exact ihb hq h
  |_=>exact hq _ _ _ _ h
 |cond c a b iha ihb=>
  intro f ds H Q Q' hq h;obtain⟨t,h1,h2⟩:=h;refine⟨t,h1,?_⟩
  cases t with
  |true=>exact iha hq h2
  |false=>exact ihb hq h2
 |block id a ih=>
  intro f ds H Q Q' hq h;refine ih (fun e f ds H h=>?_) h
  cases e with
  |exit i=>
   simp only[inBlockF] at h ⊢;split
   · rename_i hi;rw[if_pos hi] at h;exact hq _ _ _ _ h
   · rename_i hi;rw[if_neg hi] at h;exact hq _ _ _ _ h
  |_=>exact hq _ _ _ _ h
 |loop a ih=>
  intro f ds H Q Q' hq h;obtain⟨I,m,h0,hI⟩:=h;refine⟨I,m,h0,fun m f ds H hi=>ih (fun e f ds H h=>?_) (hI m f ds H hi)⟩
  cases e with
  |normal=>exact h
  |_=>exact hq _ _ _ _ h
 |exit id=>exact fun hq h=>hq _ _ _ _ h
 |ret=>exact fun hq h=>hq _ _ _ _ h
 |rangeF c ps a b iha ihb=>
  intro f ds H Q Q' hq h;obtain⟨fid,fs,cs,v,He,k',s',st,Hf,h1,h2,h3,h4,h5⟩:=h;refine⟨fid,fs,cs,v,He,k',s',st,Hf,h1,h2,h3,h4,?_⟩
  cases st with
  |ready=>exact hq _ _ _ _ h5
  |done e=>cases e<;>exact hq _ _ _ _ h5
  |busy=>exact h5.elim
  |over _=>exact h5.elim
def startF (args:List AV):Slt:=fun t=>args.getD t undefA
def resF (f:Slt) (H:Heap):ARes→Option AV
 |.tmp t=>some (f t)
 |.cell a agg n=>match aop (evF g0 f) H (.load agg n (.tmp a)) with
  |some (v,_)=>some v
  |none=>none
def resFs (f:Slt) (H:Heap):List ARes→Option (List AV)
 |[]=>some []
 |x::r=>match resF f H x,resFs f H r with
  |some v,some vs=>some (v::vs)
  |_,_=>none
theorem qJ {f:Slt} (hb:FBnd n f) (H:Heap):∀l,resFs f H l=resAs (LF n f) H l
 |[]=>rfl
 |x::r=>by
  have ih:=qJ hb H r
  cases x with
  |tmp t=>
   simp only[resFs,resAs,resF,resA,ih,yW hb];cases resAs (LF n f) H r<;>rfl
  |cell a agg m=>
   simp only[resFs,resAs,resF,resA,ih,lL hb]
   cases aop (Arg.eval g0 (LF n f)) H (.load agg m (.tmp a)) with
   |none=>rfl
   |some p=>cases resAs (LF n f) H r<;>rfl
theorem jO {args:List AV} (h:args.length≤n):FBnd n (startF args)∧LF n (startF args)=args++List.replicate (n -args.length) undefA:=by
 refine⟨fun t ht=>?_,List.ext_getElem? fun t=>?_⟩
 · simp only[startF,getD_eq]
   rw[List.getElem?_eq_none (by omega)];rfl
 · unfold LF
   rw[List.getElem?_map];by_cases ht:t<n
   · rw[List.getElem?_range ht,Option.map_some]
     by_cases h1:t<args.length
     · rw[List.getElem?_append_left h1]
       simp[startF,getD_eq,List.getElem?_eq_getElem h1]
     · rw[List.getElem?_append_right (by omega),List.getElem?_replicate,if_pos (by omega)]
       simp only[startF,getD_eq];rw[List.getElem?_eq_none (by omega)];rfl
   · rw[List.getElem?_eq_none (by simp;omega),List.getElem?_eq_none (by simp;omega)]
     rfl
def retF (rs:List ARes) (R:Out→Heap→Prop):FQ
 |.normal,f,ds,H|.ret,f,ds,H=>ds=[]∧∃vs,resFs f H rs=some vs∧R (.ret (retA vs)) H
 |.panic v,_,ds,H=>ds=[]∧R (.pan v) H
 |.exit _,_,_,_=>False
theorem aMp {F:AFn} {args:List AV} (ha:args.length≤F.ntmps) {H:Heap} {R:Out→Heap→Prop} (h:FC P g F.ntmps F.body (startF args) [] H (retF F.results R)):
 AC P g F.body (startS F args) [] H (retQ F R):=by
 obtain⟨hb,hl⟩:=jO ha;unfold startS;rw[←hl];refine cC (fun e s ds H hq=>?_) (gR F.body _ [] H _ hb h);obtain⟨f,rfl,hb',hq⟩:=hq
 cases e with
 |normal=>
  obtain⟨h1,vs,h2,h3⟩:=hq;exact⟨h1,vs,by rw[←qJ hb'];exact h2,h3⟩
 |ret=>
  obtain⟨h1,vs,h2,h3⟩:=hq;exact⟨h1,vs,by rw[←qJ hb'];exact h2,h3⟩
 |panic v=>exact hq
 |exit id=>exact hq
def ROper.det (r:ROper):Bool:=match r.op with|.mrange _|.mnext _=>false|_=>true
def ACode.det:ACode→Bool
 |.ops rl=>rl.all ROper.det
 |.seq a b|.cond _ a b=>a.det&&b.det
 |.block _ a|.loop a=>a.det
 |_=>true
theorem aEc {rl:List ROper} (hd:rl.all ROper.det=true):∀{s:List AV} {ds:List Dfr} {H:Heap} {Q:AQ},AOps P g rl s ds H Q→
 ∃ae s' ds' H',Q ae s' ds' H'∧AOps P g rl s ds H (fun e s d h=>e=ae∧s=s'∧d=ds'∧h=H'):=by
 induction rl with
 |nil=>exact fun {s ds H Q} h=>⟨.normal,s,ds,H,h,rfl,rfl,rfl,rfl⟩
 |cons o r ih=>
  intro s ds H Q h;simp only[List.all_cons,Bool.and_eq_true] at hd;have ih:=fun {s ds H Q}=> @ih hd.2 s ds H Q;unfold AOps at h ⊢;by_cases hw:wantedA s o=true
  · simp only[hw,if_true] at h ⊢
    split at h
    · obtain⟨out,H',h1,h3⟩:=h
      cases out with
      |ret v=>
       obtain⟨ae,s',ds',H1,q,hA⟩:=ih h3;exact⟨ae,s',ds',H1,q,.ret v,H',h1,hA⟩
      |pan v=>exact⟨.panic v,s,ds,H',h3,.pan v,H',h1,rfl,rfl,rfl,rfl⟩
    · obtain⟨t,v,h1,h2⟩:=h
      exact⟨_,s,ds,H,h2,t,v,h1,rfl,rfl,rfl,rfl⟩
    · obtain⟨p,h1,h2⟩:=h
      obtain⟨ae,s',ds',H1,q,hA⟩:=ih h2;exact⟨ae,s',ds',H1,q,p,h1,hA⟩
    · rename_i x hop
      simp[ROper.det,hop] at hd
    · rename_i x hop
      simp[ROper.det,hop] at hd
    · obtain⟨it,m,mb,c,seen,es,bs,j,h1,h2,h3,h4,h5⟩:=h
      obtain⟨ae,s',ds',H1,q,hA⟩:=ih h5;exact⟨ae,s',ds',H1,q,it,m,mb,c,seen,es,bs,j,h1,h2,h3,h4,hA⟩
    · obtain⟨v,H',h1,h2⟩:=h
      obtain⟨ae,s',ds',H1,q,hA⟩:=ih h2;exact⟨ae,s',ds',H1,q,v,H',h1,hA⟩
  · simp only[hw] at h ⊢
    exact ih h
theorem aJb {pairs:List (Nat×Nat)} {base:Nat} {rl:List ROper}:∀{i k:Nat} {rd:List (Nat×Nat)} {ef:List (Nat×Heap×Heap)} {s:List AV} {H:Heap} {Q:List AV→Heap→Prop},
 ADr P g pairs base i k rl rd ef s H Q→∃s' H',Q s' H'∧ADr P g pairs base i k rl rd ef s H (fun s h=>s=s'∧h=H'):=by
 induction rl with
 |nil=>exact fun {i k rd ef s H Q} h=>⟨s,H,h,rfl,rfl⟩
 |cons r rs ih=>
  intro i k rd ef s H Q h;unfold ADr at h ⊢;by_cases hw:wantedA s r=true
  · simp only[hw,if_true] at h ⊢
    by_cases hf:r.op.fresh=true
    · simp only[hf,if_true] at h ⊢
      obtain⟨ob,val,h1,h2,h3⟩:=h;obtain⟨s',H',q,hA⟩:=ih h3;exact⟨s',H',q,ob,val,h1,h2,hA⟩
    · simp only[hf] at h ⊢
      by_cases he:r.op.eff=true
      · simp only[he,if_true] at h ⊢
        obtain⟨v,H1,h1,h2,h3,h4⟩:=h;obtain⟨s',H',q,hA⟩:=ih h4;exact⟨s',H',q,v,H1,h1,h2,h3,hA⟩
      · simp only[he] at h ⊢
        obtain⟨v,h1,h2,h3⟩:=h;obtain⟨s',H',q,hA⟩:=ih h3;exact⟨s',H',q,v,h1,h2,hA⟩
  · simp only[hw] at h ⊢
    exact ih h
theorem oP {c:ACode} (hd:c.det=true):∀{s:List AV} {ds:List Dfr} {H:Heap} {Q:AQ},AC P g c s ds H Q→
 ∃ae s' ds' H',Q ae s' ds' H'∧AC P g c s ds H (fun e s d h=>e=ae∧s=s'∧d=ds'∧h=H'):=by
 induction c with
 |skip=>exact fun {s ds H Q} h=>⟨.normal,s,ds,H,h,rfl,rfl,rfl,rfl⟩
 |ops rl=>exact fun h=>aEc hd h
 |draw rl pairs=>
  intro s ds H Q h;obtain⟨s',H',q,hA⟩:=aJb h.2;exact⟨.normal,s',ds,H',q,h.1,aAz (fun s H h=>⟨rfl,h.1,rfl,h.2⟩) hA⟩
 |seq a b iha ihb=>
  simp only[ACode.det,Bool.and_eq_true] at hd;have iha:=fun {s ds H Q}=> @iha hd.1 s ds H Q;have ihb:=fun {s ds H Q}=> @ihb hd.2 s ds H Q;intro s ds H Q h;obtain⟨ae,s1,ds1,H1,q,hA⟩:=iha h
  cases ae with
  |normal=>
   obtain⟨ae2,s2,ds2,H2,q2,hB⟩:=ihb q;refine⟨ae2,s2,ds2,H2,q2,?_⟩;show AC P g a s ds H _;refine cC (fun e s d h hh=>?_) hA;obtain⟨rfl,rfl,rfl,rfl⟩:=hh;exact hB
  |_=>
   refine⟨_,s1,ds1,H1,q,?_⟩;show AC P g a s ds H _;refine cC (fun e s d h hh=>?_) hA;obtain⟨rfl,rfl,rfl,rfl⟩:=hh;exact⟨rfl,rfl,rfl,rfl⟩
 |cond c a b iha ihb=>
  simp only[ACode.det,Bool.and_eq_true] at hd;have iha:=fun {s ds H Q}=> @iha hd.1 s ds H Q;have ihb:=fun {s ds H Q}=> @ihb hd.2 s ds H Q;intro s ds H Q h;obtain⟨t,h1,h2⟩:=h
  cases t with
  |true=>
   obtain⟨ae,s1,ds1,H1,q,hA⟩:=iha h2;exact⟨ae,s1,ds1,H1,q,true,h1,hA⟩
  |false=>
   obtain⟨ae,s1,ds1,H1,q,hA⟩:=ihb h2;exact⟨ae,s1,ds1,H1,q,false,h1,hA⟩
 |block id a ih=>
  have ih:=fun {s ds H Q}=> @ih hd s ds H Q;intro s ds H Q h;obtain⟨ae,s1,ds1,H1,q,hA⟩:=ih h
  have other:∀e,(∀i,e≠ .exit i)→Q e s1 ds1 H1→AC P g a s ds H (fun e' s d h=>e'=e∧s=s1∧d=ds1∧h=H1)→
   ∃ae s' ds' H',Q ae s' ds' H'∧AC P g (.block id a) s ds H (fun e s d h=>e=ae∧s=s'∧d=ds'∧h=H'):=fun e hne hq hA=>by
   refine⟨e,s1,ds1,H1,hq,?_⟩;show AC P g a s ds H _;refine cC (fun e' s d h hh=>?_) hA;obtain⟨rfl,rfl,rfl,rfl⟩:=hh
   cases e' with
   |exit i=>exact absurd rfl (hne i)
   |_=>exact⟨rfl,rfl,rfl,rfl⟩
  cases ae with
  |exit i=>
   simp only[inBlockA] at q;by_cases hi:i=id
   · rw[if_pos hi] at q
     refine⟨.normal,s1,ds1,H1,q,?_⟩;show AC P g a s ds H _;refine cC (fun e s d h hh=>?_) hA;obtain⟨rfl,rfl,rfl,rfl⟩:=hh;simp only[inBlockA];rw[if_pos hi]
     first|exact⟨rfl,rfl,rfl,rfl⟩|simp
   · rw[if_neg hi] at q
     refine⟨.exit i,s1,ds1,H1,q,?_⟩;show AC P g a s ds H _;refine cC (fun e s d h hh=>?_) hA;obtain⟨rfl,rfl,rfl,rfl⟩:=hh;simp only[inBlockA];rw[if_neg hi]
     first|exact⟨rfl,rfl,rfl,rfl⟩|simp
  |normal=>exact other _ (fun i hh=>by cases hh) q hA
  |ret=>exact other _ (fun i hh=>by cases hh) q hA
  |panic v=>exact other _ (fun i hh=>by cases hh) q hA
 |loop a ih=>
  have ih:=fun {s ds H Q}=> @ih hd s ds H Q;intro s ds H Q h;obtain⟨I,m,h0,hI⟩:=h
  have key:∀(m:Nat) (s:List AV) (ds:List Dfr) (H:Heap),I m s ds H→
   ∃ae s' ds' H',Q ae s' ds' H'∧AC P g (.loop a) s ds H (fun e s d h=>e=ae∧s=s'∧d=ds'∧h=H'):=by
   intro m
   induction m using Nat.strongRecOn with
   |_ m ihm=>
    intro s ds H hi;obtain⟨ae,s1,ds1,H1,q,hA⟩:=ih (hI m s ds H hi)
    have once:∀e,e≠ .normal→Q e s1 ds1 H1→AC P g a s ds H (fun e' s d h=>e'=e∧s=s1∧d=ds1∧h=H1)→
     ∃ae s' ds' H',Q ae s' ds' H'∧AC P g (.loop a) s ds H (fun e s d h=>e=ae∧s=s'∧d=ds'∧h=H'):=fun e hne hq hA=>by
     refine⟨e,s1,ds1,H1,hq,fun k s' d' h'=>s'=s∧d'=ds∧h'=H,0,⟨rfl,rfl,rfl⟩,?_⟩;rintro k _ _ _ ⟨rfl,rfl,rfl⟩;refine cC (fun e' s d h hh=>?_) hA;obtain⟨rfl,rfl,rfl,rfl⟩:=hh
     cases e' with
     |normal=>exact absurd rfl hne
     |_=>exact⟨rfl,rfl,rfl,rfl⟩
    cases ae with
    |normal=>
     obtain⟨k,hk,hi1⟩:=q;obtain⟨ae2,s2,ds2,H2,q2,J,j,hj,hJ⟩:=ihm k hk s1 ds1 H1 hi1;refine⟨ae2,s2,ds2,H2,q2,fun x s' d' h'=>J x s' d' h'∨(x=j+1∧s'=s∧d'=ds∧h'=H),j+1,.inr ⟨rfl,rfl,rfl,rfl⟩,?_⟩;rintro x s' d' h' (hx|⟨rfl,rfl,rfl,rfl⟩)
     · refine cC (fun e s d h hh=>?_) (hJ x s' d' h' hx)
       cases e with
       |normal=>
        obtain⟨y,hy,hyy⟩:=hh;exact⟨y,hy,.inl hyy⟩
       |_=>exact hh
     · refine cC (fun e s d h hh=>?_) hA
       obtain⟨rfl,rfl,rfl,rfl⟩:=hh;exact⟨j,Nat.lt_succ_self j,.inl hj⟩
    |exit i=>exact once _ (fun hh=>by cases hh) q hA
    |ret=>exact once _ (fun hh=>by cases hh) q hA
    |panic v=>exact once _ (fun hh=>by cases hh) q hA
  exact key m s ds H h0
 |exit id=>exact fun {s ds H Q} h=>⟨_,s,ds,H,h,rfl,rfl,rfl,rfl⟩
 |ret=>exact fun {s ds H Q} h=>⟨_,s,ds,H,h,rfl,rfl,rfl,rfl⟩
 |rangeF c ps a b iha ihb=>
  intro s ds H Q h;obtain⟨fid,fs,cs,v,He,k',s',st,Hf,h1,h2,h3,h4,h5⟩:=h
  cases st with
  |ready=>exact⟨_,_,_,Hf,h5,fid,fs,cs,v,He,k',s',.ready,Hf,h1,h2,h3,h4,rfl,rfl,rfl,rfl⟩
  |done e=>cases e<;>exact⟨_,_,_,Hf,h5,fid,fs,cs,v,He,k',s',.done _,Hf,h1,h2,h3,h4,rfl,rfl,rfl,rfl⟩
  |busy=>exact h5.elim
  |over _=>exact h5.elim
theorem cV {mu:Bool} (hm:Fit P g) {f:FuncId} {F:AFn} (hF:FnIs P g mu f F) {args:List AV} (ha:args.length≤F.ntmps) {H:Heap} {R:Out→Heap→Prop}
 (h:FC P g F.ntmps F.body (startF args) [] H (retF F.results R)) (hdt:F.body.det=true:=by first|rfl|decide):∃out H',R out H'∧Sound P g f args H out H':=by
 obtain⟨ae,s,ds,H',q,hA⟩:=oP hdt (aMp ha h);have fin:∀out,R out H'→AC P g F.body (startS F args) [] H (retQ F fun o h=>o=out∧h=H')→∃out H',R out H'∧Sound P g f args H out H':=fun out hR hA=>⟨out,H',hR,aBg hm hF hA⟩
 cases ae with
 |exit id=>exact q.elim
 |panic v=>
  refine fin (.pan v) q.2 (cC (fun e s d h hh=>?_) hA);obtain⟨rfl,rfl,rfl,rfl⟩:=hh;exact⟨q.1,rfl,rfl⟩
 |normal=>
  obtain⟨h1,vs,h2,h3⟩:=q;refine fin _ h3 (cC (fun e s d h hh=>?_) hA);obtain⟨rfl,rfl,rfl,rfl⟩:=hh;exact⟨h1,vs,h2,rfl,rfl⟩
 |ret=>
  obtain⟨h1,vs,h2,h3⟩:=q;refine fin _ h3 (cC (fun e s d h hh=>?_) hA);obtain⟨rfl,rfl,rfl,rfl⟩:=hh;exact⟨h1,vs,h2,rfl,rfl⟩
end
end
section
theorem bS {a b:Prop} (h1:a→b) (h2:b→a):a=b:=propext ⟨h1,h2⟩
theorem aN {r r':Option (AV×Heap)} (h:r=r') (k:AV→Heap→Prop):stepK r k=stepK r' k:=by rw[h]
theorem aZ (v:AV) (H:Heap) (k:AV→Heap→Prop):stepK (some (v,H)) k=k v H:=bS id id
section
variable {P:Program} {g:Genv} {n:Nat} {r:List ROper} {f:Slt} {ds:List Dfr} {H:Heap} {Q:FQ}
theorem jE:FOps P g n [] f ds H Q=Q .normal f ds H:=bS id id
theorem yV (d:Nat) (op:ROp) (hp:op.plain=true) (hd:d<n):
 FOps P g n (⟨some d,op,none⟩::r) f ds H Q=stepK (aop (evF g f) H op) fun v H'=>FOps P g n r (upd f d v) ds H' Q:=by
 have :∀v,putF n f (some d) v=upd f d v:=fun v=>by simp[putF,hd]
 conv=>lhs;unfold FOps
 simp only[wantedF,if_true,this]
 cases op<;>first|rfl|cases hp
theorem aMy (op:ROp) (hp:op.plain=true):
 FOps P g n (⟨none,op,none⟩::r) f ds H Q=stepK (aop (evF g f) H op) fun v H'=>FOps P g n r f ds H' Q:=by
 conv=>lhs;unfold FOps
 simp only[wantedF,if_true,putF]
 cases op<;>first|rfl|cases hp
theorem oV (d:Nat) (x:Arg) (hd:d<n):FOps P g n (⟨some d,(.mov x),none⟩::r) f ds H Q=stepK (aop (evF g f) H (.mov x)) fun v H'=>FOps P g n r (upd f d v) ds H' Q:=yV d _ rfl hd
theorem lB (d:Nat) (o:BinOp) (x y:Arg) (hd:d<n):FOps P g n (⟨some d,(.bin o x y),none⟩::r) f ds H Q=stepK (aop (evF g f) H (.bin o x y)) fun v H'=>FOps P g n r (upd f d v) ds H' Q:=yV d _ rfl hd
theorem aJj {d:Nat} {fid:FuncId} {azs:List Arg} {args:List AV} {v:AV} {H':Heap} (hd:d<n) (ha:azs.map (evF g f)=args) (hS:Sound P g fid args H (.ret v) H')
 (h:FOps P g n r (upd f d v) ds H' Q):FOps P g n (⟨some d,.call (.const (.func (.func fid) [] [])) azs,none⟩::r) f ds H Q:=by
 have :∀v,putF n f (some d) v=upd f d v:=fun v=>by simp[putF,hd]
 unfold FOps;simp only[wantedF,if_true,this];exact⟨.ret v,H',.inl ⟨(fid,[],[]),rfl,by simpa [ha] using hS⟩,h⟩
theorem tE {d:Nat} {c:Arg} {fid:FuncId} {fs cs:List AV} {azs:List Arg} {args:List AV} {v:AV} {H':Heap} (hd:d<n) (hc:evF g f c=.func (.func fid) fs cs) (ha:fs++azs.map (evF g f)++cs=args)
 (hS:Sound P g fid args H (.ret v) H') (h:FOps P g n r (upd f d v) ds H' Q):FOps P g n (⟨some d,.call c azs,none⟩::r) f ds H Q:=by
 have :∀v,putF n f (some d) v=upd f d v:=fun v=>by simp[putF,hd]
 unfold FOps;simp only[wantedF,if_true,this];exact⟨.ret v,H',.inl ⟨(fid,fs,cs),by rw[hc];rfl,by rw[ha];exact hS⟩,h⟩
theorem dA (t:Nat):evF g f (.tmp t)=f t:=by cases h:f t<;>exact h
theorem jG (v:AV):evF g f (.const v)=v:=by cases v<;>rfl
theorem qU (rl:List ROper):FC P g n (.ops rl) f ds H Q=FOps P g n rl f ds H Q:=bS id id
theorem sT:FC P g n .skip f ds H Q=Q .normal f ds H:=bS id id
theorem aUq:FC P g n .ret f ds H Q=Q .ret f ds H:=bS id id
theorem sR (id:Nat):FC P g n (.exit id) f ds H Q=Q (.exit id) f ds H:=bS (fun h=>h) (fun h=>h)
theorem aA {a b:ACode} (h:∀K:Slt→List Dfr→Heap→Prop,(∀f ds H,FC P g n b f ds H Q→K f ds H)→FC P g n a f ds H (thenF K Q)):FC P g n (.seq a b) f ds H Q:=h _ fun _ _ _ h=>h
theorem aI {id:Nat} {a:ACode} (h:FC P g n a f ds H (inBlockF id Q)):FC P g n (.block id a) f ds H Q:=h
theorem mF {c:Arg} {a b:ACode} (t:Bool) (hc:evF g f c=.bool t) (h1:t=true→FC P g n a f ds H Q) (h2:t=false→FC P g n b f ds H Q):FC P g n (.cond c a b) f ds H Q:=by
 refine⟨t,hc,?_⟩
 cases t with
 |true=>exact h1 rfl
 |false=>exact h2 rfl
theorem yU {a:ACode} (I:Nat→Slt→List Dfr→Heap→Prop) (m:Nat) (h0:I m f ds H) (h:∀m f ds H,I m f ds H→FC P g n a f ds H (thenF (fun f ds H=>∃k,k<m∧I k f ds H) Q)):FC P g n (.loop a) f ds H Q:=⟨I,m,h0,h⟩
theorem cN (K:Slt→List Dfr→Heap→Prop):thenF K Q .normal f ds H=K f ds H:=bS id id
theorem aMh (K:Slt→List Dfr→Heap→Prop):thenF K Q .ret f ds H=Q .ret f ds H:=bS id id
theorem eS (K:Slt→List Dfr→Heap→Prop) (i:Nat):thenF K Q (.exit i) f ds H=Q (.exit i) f ds H:=bS id id
theorem sN (i:Nat):inBlockF i Q .normal f ds H=Q .normal f ds H:=bS id id
theorem zV (i:Nat):inBlockF i Q .ret f ds H=Q .ret f ds H:=bS id id
theorem fU (i:Nat):inBlockF i Q (.exit i) f ds H=Q .normal f ds H:=by simp[inBlockF]
theorem uD (i j:Nat) (h:j≠i):inBlockF i Q (.exit j) f ds H=Q (.exit j) f ds H:=by simp[inBlockF,h]
end
class Pl (op:ROp):Prop where h:op.plain=true
instance (x:Arg):Pl (.mov x):=⟨rfl⟩
instance (c a b:Arg):Pl (.pick c a b):=⟨rfl⟩
instance (z:List AV):Pl (.alloc z):=⟨rfl⟩
instance (x:Arg):Pl (.box x):=⟨rfl⟩
instance (z:List AV) (ps:List (Nat×Nat×Arg)):Pl (.build z ps):=⟨rfl⟩
instance (sz:Nat) (xs:List Arg):Pl (.mklit sz xs):=⟨rfl⟩
instance (agg:Bool) (m:Nat) (a:Arg):Pl (.load agg m a):=⟨rfl⟩
instance (m:Nat) (a x:Arg):Pl (.store m a x):=⟨rfl⟩
instance (o:BinOp) (x y:Arg):Pl (.bin o x y):=⟨rfl⟩
instance (neg:Bool) (x y:Arg):Pl (.eqb neg x y):=⟨rfl⟩
instance (neg:Bool) (sh:List Sk) (x y:Arg):Pl (.eqf neg sh x y):=⟨rfl⟩
instance (neg:Bool) (k:Nk) (lit:Bool) (x y:Arg):Pl (.eqn neg k lit x y):=⟨rfl⟩
instance (o:UnOp) (x:Arg):Pl (.un o x):=⟨rfl⟩
instance (k:IntKind) (x:Arg):Pl (.convi k x):=⟨rfl⟩
instance (x:Arg):Pl (.str2b x):=⟨rfl⟩
instance (x:Arg):Pl (.b2str x):=⟨rfl⟩
instance (m:Nat) (x:Arg):Pl (.s2ap m x):=⟨rfl⟩
instance (t:TypeId) (x:Arg):Pl (.mkif t x):=⟨rfl⟩
instance (fn:Fn) (a b:List Arg):Pl (.mkfn fn a b):=⟨rfl⟩
instance:Pl (.mkmap):=⟨rfl⟩
instance (sz bytes:Nat) (z:List AV) (l c:Arg):Pl (.mkslice sz bytes z l c):=⟨rfl⟩
instance (x:Arg) (lo hi:Option Arg):Pl (.slstr x lo hi):=⟨rfl⟩
instance (sz:Nat) (x:Arg) (lo hi mx:Option Arg):Pl (.slsl sz x lo hi mx):=⟨rfl⟩
instance (m sz:Nat) (x:Arg) (lo hi mx:Option Arg):Pl (.slarr m sz x lo hi mx):=⟨rfl⟩
instance (off:Nat) (x:Arg):Pl (.fadr off x):=⟨rfl⟩
instance (arr:Option Nat) (sz:Nat) (x i:Arg):Pl (.iadr arr sz x i):=⟨rfl⟩
instance (m sz:Nat) (agg:Bool) (x i:Arg):Pl (.idx m sz agg x i):=⟨rfl⟩
instance (x i:Arg):Pl (.idxs x i):=⟨rfl⟩
instance (t:TypeId) (ok:Bool) (z:AV) (x:Arg):Pl (.tass t ok z x):=⟨rfl⟩
instance (x:Arg) (i:Nat):Pl (.extr x i):=⟨rfl⟩
instance (x:Arg):Pl (.lens x):=⟨rfl⟩
instance (x:Arg):Pl (.lenl x):=⟨rfl⟩
instance (x y:Arg):Pl (.maxi x y):=⟨rfl⟩
instance (x y:Arg):Pl (.mini x y):=⟨rfl⟩
instance (sz bytes:Nat) (mu:Bool) (x y:Arg):Pl (.append sz bytes mu x y):=⟨rfl⟩
instance (k:Sk) (z:AV) (ok:Bool) (x i:Arg):Pl (.lookup k z ok x i):=⟨rfl⟩
instance (k:Sk) (m i v:Arg):Pl (.mapup k m i v):=⟨rfl⟩
instance (sz:Nat) (z:List AV) (x:Arg):Pl (.clr sz z x):=⟨rfl⟩
theorem bCt (P:Program) (g:Genv) (n:Nat):
 (∀(r:List ROper) (f:Slt) (ds:List Dfr) (H:Heap) (Q:FQ) (d:Nat) (op:ROp) [Pl op] (hd:d<n),FOps P g n (⟨some d,op,none⟩::r) f ds H Q=stepK (aop (evF g f) H op) fun v H'=>FOps P g n r (upd f d v) ds H' Q)∧
 (∀(r:List ROper) (f:Slt) (ds:List Dfr) (H:Heap) (Q:FQ) (op:ROp) [Pl op],FOps P g n (⟨none,op,none⟩::r) f ds H Q=stepK (aop (evF g f) H op) fun v H'=>FOps P g n r f ds H' Q)∧
 (∀(f:Slt) (ds:List Dfr) (H:Heap) (Q:FQ),FOps P g n [] f ds H Q=Q .normal f ds H)∧
 (∀(f:Slt) (ds:List Dfr) (H:Heap) (Q:FQ) (rl:List ROper),FC P g n (.ops rl) f ds H Q=FOps P g n rl f ds H Q)∧
 (∀(f:Slt) (ds:List Dfr) (H:Heap) (Q:FQ),FC P g n .skip f ds H Q=Q .normal f ds H)∧
 (∀(f:Slt) (ds:List Dfr) (H:Heap) (Q:FQ),FC P g n .ret f ds H Q=Q .ret f ds H)∧
 (∀(f:Slt) (ds:List Dfr) (H:Heap) (Q:FQ) (id:Nat),FC P g n (.exit id) f ds H Q=Q (.exit id) f ds H):=
 ⟨fun _ _ _ _ _ d op i hd=>yV d op i.h hd,fun _ _ _ _ _ op i=>aMy op i.h,fun _ _ _ _=>jE,fun _ _ _ _ rl=>qU rl,fun _ _ _ _=>sT,fun _ _ _ _=>aUq,fun _ _ _ _ id=>sR id⟩
theorem aC:
 (∀(v:AV) (H:Heap) (k:AV→Heap→Prop),stepK (some (v,H)) k=k v H)∧
 (∀(g:Genv) (f:Slt) (t:Nat),evF g f (.tmp t)=f t)∧
 (∀(g:Genv) (f:Slt) (v:AV),evF g f (.const v)=v)∧
 (∀(f:Slt) (d:Nat) (v:AV),upd f d v d=v)∧
 (∀(f:Slt) (d t:Nat) (v:AV),t≠d→upd f d v t=f t)∧
 (∀(f:Slt) (ds:List Dfr) (H:Heap) (Q:FQ) (K:Slt→List Dfr→Heap→Prop),thenF K Q .normal f ds H=K f ds H)∧
 (∀(f:Slt) (ds:List Dfr) (H:Heap) (Q:FQ) (K:Slt→List Dfr→Heap→Prop),thenF K Q .ret f ds H=Q .ret f ds H)∧
 (∀(f:Slt) (ds:List Dfr) (H:Heap) (Q:FQ) (K:Slt→List Dfr→Heap→Prop) (i:Nat),thenF K Q (.exit i) f ds H=Q (.exit i) f ds H)∧
 (∀(f:Slt) (ds:List Dfr) (H:Heap) (Q:FQ) (i:Nat),inBlockF i Q .normal f ds H=Q .normal f ds H)∧
 (∀(f:Slt) (ds:List Dfr) (H:Heap) (Q:FQ) (i:Nat),inBlockF i Q .ret f ds H=Q .ret f ds H)∧
 (∀(f:Slt) (ds:List Dfr) (H:Heap) (Q:FQ) (i:Nat),inBlockF i Q (.exit i) f ds H=Q .normal f ds H)∧
 (∀(f:Slt) (ds:List Dfr) (H:Heap) (Q:FQ) (i j:Nat),j≠i→inBlockF i Q (.exit j) f ds H=Q (.exit j) f ds H):=
 ⟨aZ,
   (fun g f t=>dA t),
   (fun g f v=>jG v),
   gD,
   (fun f d t v h=>eT f v h),
   (fun f ds H Q K=>cN K),
   (fun f ds H Q K=>aMh K),
   (fun f ds H Q K i=>eS K i),
   (fun f ds H Q i=>sN i),
   (fun f ds H Q i=>zV i),
   (fun f ds H Q i=>fU i),
   (fun f ds H Q i j h=>uD i j h)⟩
end
def Own (H:Heap) (sz:Nat) (v:AV) (els:List (List AV)):Prop:=
 (v=.nilsl∧els=[])∨∃k,v=.aT (k+2) sz els∧k<H.next∧H.get k=some .tok
def tokOf:AV→Option Nat
 |.aT (k+2) _ _=>some k
 |_=>none
structure Grew (H H':Heap) (v:AV):Prop where
 next:H.next≤H'.next
 get:∀id,tokOf v≠some id→id<H.next→H'.get id=H.get id
theorem Own.nil (H:Heap) (sz:Nat):Own H sz .nilsl []:=.inl ⟨rfl,rfl⟩
theorem Own.aT {H:Heap} {sz k:Nat} {els:List (List AV)} (hk:k<H.next) (h:H.get k=some .tok):Own H sz (.aT (k+2) sz els) els:=.inr ⟨k,rfl,hk,h⟩
theorem Own.fresh (H:Heap) (sz:Nat) (els:List (List AV)):Own (H.alloc .tok) sz (.aT (H.next+2) sz els) els:=.aT (by simp) (by rw[Heap.aH,if_pos rfl])
theorem Own.alloc {H:Heap} {sz:Nat} {v:AV} {els:List (List AV)} (h:Own H sz v els) (o:AObj):Own (H.alloc o) sz v els:=by
 rcases h with h|⟨k,h1,h2,h3⟩
 · exact .inl h
 · exact .inr ⟨k,h1,by simp;omega,by rw[Heap.aH,if_neg (by omega)];exact h3⟩
theorem Own.set {H:Heap} {sz:Nat} {v:AV} {els:List (List AV)} (h:Own H sz v els) (id:Nat) (o:AObj) (hid:tokOf v≠some id):Own (H.set id o) sz v els:=by
 rcases h with h|⟨k,rfl,h2,h3⟩
 · exact .inl h
 · refine .inr ⟨k,rfl,h2,?_⟩
   rw[Heap.aB,if_neg]
   · exact h3
   · intro hh
     exact hid (by simp[tokOf,hh])
theorem Own.append {H:Heap} {sz bytes:Nat} {v:AV} {els ys:List (List AV)} (h:Own H sz v els) (hb:(els.length+ys.length)*bytes≤2^40):
 ∃v' H',appendA H sz bytes false v ys=some (v',H')∧Own H' sz v' (els++ys)∧Grew H H' v:=by
 by_cases hy:ys=[]
 · subst hy
   refine⟨v,H,?_,by rw[List.append_nil];exact h,Nat.le_refl _,fun _ _ _=>rfl⟩
   rcases h with ⟨rfl,rfl⟩|⟨k,rfl,_,hk⟩<;>rfl
 · have hne:ys.isEmpty=false:=by cases ys with
    |nil=>exact absurd rfl hy
    |cons _ _=>rfl
   rcases h with ⟨rfl,rfl⟩|⟨k,rfl,hkn,hk⟩
   · refine⟨.aT (H.next+2) sz ys,H.alloc .tok,?_,.inr ⟨H.next,by simp,by simp,by simp[Heap.aH]⟩,by simp,fun id _ hid=>by rw[Heap.aH,if_neg (by omega)]⟩
     simp only[appendA,hne,newRowA];simp only[List.length_nil,Nat.zero_add] at hb;simp[hb]
   · refine⟨.aT (H.next+2) sz (els++ys),(H.set k .dead).alloc .tok,?_,.inr ⟨H.next,rfl,by simp,by simp[Heap.aH]⟩,by simp,fun id h1 hid=>?_⟩
     · simp only[appendA,hne]
       simp[hb,hk]
     · rw[Heap.aH,if_neg (by simp;omega),Heap.aB,if_neg]
       intro hh;exact h1 (by simp[tokOf,hh])
def intsE (l:List Int):List (List AV):=l.map fun x=>[AV.int .i64 x]
theorem jV (a:List Int):(intsE a).length=a.length:=by simp[intsE]
theorem pI:∀l,freeLL (intsE l)=true
 |[]=>rfl
 |x::l=>by
  simp only[intsE,List.map_cons,freeLL,freeL,AV.free,Bool.and_self,Bool.true_and];exact pI l
theorem mG {P:Program} {g:Genv} (hg:GFree g) {f:FuncId} {args:List AV} (ha:freeL args=true) {sz:Nat} {els:List (List AV)} (hne:els≠[]) (hf:freeLL els=true)
 (h:∃out H',(∃v,out=.ret v∧Own H' sz v els)∧Sound P g f args ⟨0,.nil⟩ out H') (H:Heap):Sound P g f args H (.ret (.aT (H.next+2) sz els)) (H.alloc .tok):=by
 obtain⟨out,H',⟨v,rfl,hown⟩,hS⟩:=h
 rcases hown with ⟨_,he⟩|⟨k,rfl,_,hk⟩
 · exact absurd he hne
 · refine hS.frame hg ha (tk:=some k) (fun k' hk'=>by cases hk';exact hk) (n:=0) H ?_
   simp[Out.av,shutF,shut1,hf,tagA]
end Go.Av
