/-
  Part of the proof of statement 7
-/
import Derived.Test.YtogfcjbgeebfkaaGreatDoorA38
import Derived.Test.YtogfcjbgeebfkaaGreatDoorA07
import Derived.Test.YtogfcjbgeebfkaaGreatDoorRows
import Derived.LaidMore
import Derived.LaidLaws
import Derived.MakeChecks
import Derived.OpenShut
import Derived.Lay
import Derived.ChangeMaps5
import Derived.Deep.DeepHandedRow
set_option linter.unusedVariables false
set_option linter.unusedSimpArgs false
set_option maxRecDepth 100000
set_option maxHeartbeats 16000000
namespace Go.Proofs.YtogfcjbgeebfkaaGreatDoor
open Go Go.Av Go.aD
open Go.ChangeShapes Go.WideShapes Go.ChangeAt Go.RowKit
section
theorem own:ownKnob Tryz.prog.godebug=none:=by kernel_rfl
theorem laidOut:laidOutB Tryz.prog=true:=by kernel_rfl
def gl:List (String×DataW Unit):=Rows.bodyDisjointAsSpecifiedRow.laid
theorem bGo:Tryz.prog.globalNamed "internal/strconv.uint64pow10" =some 3:=by kernel_rfl
theorem bLm:(Tryz.prog.globals[3]?).map (·.type)=some 343:=by kernel_rfl
def VO:AV->DataW Unit
 |.int k n=>.lit (.int k n)
 |_=>.nil
theorem aWx:Rows.laid_internal_strconv_uint64pow10=DataW.agg (qM.map VO):=by kernel_rfl
theorem aIi{W:World}{mo:Bool}{enc:TypeId×Value->Unit}{name:String}{g:Nat}{cs:Array Value}{base fuel:Nat}{sp:Nat->Bool}{hd:Bool}{p:List MemPlace}(hg:Tryz.prog.globalNamed name=some g)(hv:W.var? Tryz.prog name=some cs)
 (h:DataW.trod enc Tryz.prog W base sp hd fuel 343 cs.toList=some (DataW.agg (qM.map VO),p)):VR (uT mo W) W (.pl qM) (.pointer (some ⟨g,0,none⟩)):=by
 obtain⟨xs,m,_,hx,hl,pd,Xl⟩:=DataW.trod_array Tryz.underlying343 h;have c1:Tryz.prog.cellsOf 149=1:=by kernel_rfl
 simp only[Af,DataW.agg.injEq] at hx;have hr:qM.length=20:=by kernel_rfl
 have key:∀j,j<20->∃n,cs[j]?=some (.int .u64 n)/\qM.getD j aB=.int .u64 n:=by
  intro j hj;have h1:=Xl j hj;rw[c1,Dc,Ac A0] at h1;obtain⟨n,e1,e2,_⟩:=DataW.trod_int Tryz.underlying149 h1;refine⟨n,?_,?_⟩
  . have h3:(((cs.toList.drop j).take 1))[0]?=some (.int .u64 n):=by rw[e1];rfl
    rw[Ik,if_pos A1,Gg] at h3;simpa using h3
  have h2:(qM.map VO)[j]?=some (.lit (.int .u64 n)):=by rw[hx.1,Ci,Ac A0,e2];rfl
  rw[Ci] at h2;rw[List.getD]
  cases hq:qM[j]? with
  |none=>rw[hq] at h2;cases h2
  |some a=>rw[hq] at h2;simp only[Cf,Ab] at h2;cases a<;>simp[VO] at h2;obtain⟨rfl,rfl⟩:=h2;rfl
 have cell:∀j,W.cell? ⟨g,0+j,none⟩=cs[j]?:=fun j=>by rw[Dg];exact World.var?_cell hg hv j
 obtain⟨f,hf⟩:=Go.Deep.choose_lt (α:=Int) (n:=20) (p:=fun j n=>cs[j]?=some (.int .u64 n)/\qM.getD j aB=.int .u64 n) key;refine .pl qM g 0 (fun j=>.int .u64 (f j)) (fun j hj=>?_) (fun j hj=>?_)
 . rw[hr] at hj;have :=hf j hj;refine⟨⟨_,(cell j).trans this.1⟩,(cell j).trans this.1,?_⟩;rw[this.2];rfl
 rw[hr] at hj;rw[(hf j hj).2];exact .int _ _
theorem aIj{W:World}{enc:TypeId×Value->Unit}{name:String}{g:Nat}{cs:Array Value}{base fuel:Nat}{sp:Nat->Bool}{hd:Bool}{p:List MemPlace}(hg:Tryz.prog.globalNamed name=some g)(hv:W.var? Tryz.prog name=some cs)
 (h:DataW.trod enc Tryz.prog W base sp hd fuel 343 cs.toList=some (DataW.agg (qM.map VO),p)):∃c el fz,W.heap[g]?=some (.cells c el fz)/\c.size=qM.length:=by
 obtain⟨xs,m,_,hx,hl,pd,Xl⟩:=DataW.trod_array Tryz.underlying343 h;have c1:Tryz.prog.cellsOf 343=20:=by kernel_rfl
 have hr:qM.length=20:=by kernel_rfl
 unfold World.var? at hv;rw[hg] at hv;simp only[Option.bind_some] at hv;split at hv
 . rename_i c el fz hh;cases hv;exact⟨_,_,_,hh,by rw[hr];rw[c1] at hl;simpa using hl⟩
 cases hv
theorem aIw{W:World}(h:laidMetH Tryz.prog gl W):WR kK (uT false W) ⟨0,.nil⟩ W:=by
 rw[MakeChecks.laidMetH_plain _ _ _ (by kernel_rfl)] at h;obtain⟨ps,⟨g0,t0,cs0,f0,p0,q0,Yz,RJ,yL,Ou,⟨g1,t1,cs1,f1,p1,q1,ZA,ht1,uB,ot,⟨g2,t2,cs2,f2,p2,q2,GD,ht2,qK,hd2,_,_⟩,_⟩,_⟩,_,_⟩:=h;obtain rfl:=Aa (bGo.symm.trans GD);obtain rfl:=Aa (bLm.symm.trans ht2);rw[aWx] at hd2;refine aTj (fun n cs hn=>?_) fun n cs hn h0=>?_;rotate_left
 . have hn:Oo n=some cs:=hn;unfold Oo at hn;split at hn
   . rename_i hb;obtain rfl:=Bd hb;cases hn;exact aIj GD qK hd2
   split at hn
   . cases hn;exact absurd rfl h0
   cases hn
 have hn:Oo n=some cs:=hn;unfold Oo at hn;split at hn
 . rename_i hb;obtain rfl:=Bd hb;cases hn;exact aIi GD qK hd2
 split at hn
 . cases hn;exact .pl [] n 0 (fun _=>undef) (fun j hj=>absurd hj (Ar _)) (fun j hj=>absurd hj (Ar _))
 cases hn
def ivV:Value->Int
 |.int _ n=>n
 |_=>0
theorem aMh:Oj Tryz.prog 8 33=some [3,3,3]:=by kernel_rfl
theorem aYj:Oj Tryz.prog 8 65=some [63]:=by kernel_rfl
section
variable {H:Type} {enc:TypeId×Value->H} {W:World} {base:Nat} {hd:Bool}
theorem Zf{v:Value}{m:Nat}{y:DataW H×List MemPlace}(mo:Bool)(h:DataW.trod enc Tryz.prog W base (fun _=>true) hd m 63 [v]=some y):∃p:AV×List aD.V,uM p/\VR (uT mo W) W p.1 v:=by
 rcases UN Tryz.underlying63 aMh (fun u hu=>by
  have :u=3:=by simpa using hu
  subst this;exact Tryz.underlying3) (by kernel_rfl) A1 mo h with rfl|⟨len,f,hl,hw,hv⟩
 . exact⟨(.bB,[]),.inl ⟨rfl,rfl⟩,.bB⟩
 refine⟨(.bC 0 3 (bK ((List.range len).map fun i=>(⟨f (i*3+0),f (i*3+1),f (i*3+2)⟩:aD.V))),(List.range len).map fun i=>⟨f (i*3+0),f (i*3+1),f (i*3+2)⟩),.inr rfl,hv _ ?_ ?_ ?_⟩
 . simp[bK]
 . intro e he;simp only[bK,Bm] at he;obtain⟨x,_,rfl⟩:=he;rfl
 rw[show([3,3,3]:List TypeId).length=3 from rfl,<-QA (fun j=>AV.int .i64 (f j)) 3 len];simp only[bK,Eo];rfl
theorem Mq{cs:Array Value}{m:Nat}{y:DataW H×List MemPlace}(mo:Bool)(hl:cs.toList.length=1)(h:DataW.trod enc Tryz.prog W base (fun _=>true) hd m 65 cs.toList=some y):∃p:AV×List aD.V,uM p/\VR (uT mo W) W (.agg [p.1]) (.agg cs):=by
 obtain⟨u,mu,yu,hu,hyu⟩:=(xY 8 aYj h) 0 63 rfl;obtain⟨p,hp,hv⟩:=Zf mo hyu;refine⟨p,hp,.agg _ cs.toList hl ?_ ?_⟩
 . intro c hc;rw[Cc] at hc;subst hc
   rcases hp with ⟨h1,_⟩|h1<;>rw[h1]<;>rfl
 intro j hj
 exact match j,hj with
 |0,_=>by
  have :cs.toList.getD 0 undef=u:=by rw[List.getD,hu];rfl
  rw[this];exact hv
 |n+1,h=>absurd h A2
theorem bm{G:Gh}{w:World}{cs:List Value}{i:Nat}(h:∃n,cs[i]?=some (.int .i64 n)/\(Lit.int .i64 n).wf=true):VR G w (.int .i64 (ivV (cs.getD i undef))) (cs.getD i undef):=by obtain⟨n,hn,_⟩:=h;rw[List.getD,hn];exact .int _ _
theorem aDj{cs:Array Value}{m:Nat}{y:DataW H×List MemPlace}(mo:Bool)(hl:cs.toList.length=3)(h:DataW.trod enc Tryz.prog W base (fun _=>true) hd m 33 cs.toList=some y):∃d:aD.V,VR (uT mo W) W (.agg (cE d)) (.agg cs):=by
 have R:=xY 8 aMh h;refine⟨⟨ivV (cs.toList.getD 0 undef),ivV (cs.toList.getD 1 undef),ivV (cs.toList.getD 2 undef)⟩,.agg _ cs.toList hl ?_ ?_⟩
 . intro c hc;simp only[cE,Am,Cu,Fu] at hc
   rcases hc with rfl|rfl|rfl<;>rfl
 intro j hj
 exact match j,hj with
 |0,_=>bm (yX R (i:=0) (u:=3) rfl Tryz.underlying3)
 |1,_=>bm (yX R (i:=1) (u:=3) rfl Tryz.underlying3)
 |2,_=>bm (yX R (i:=2) (u:=3) rfl Tryz.underlying3)
 |n+3,h=>absurd h (by simp[cE])
end
def aXu:Value:=.agg #[.slice none 0 0]
def bGl:Value:=.agg #[.int .i64 0,.int .i64 0,.int .i64 0]
def rdC{H:Type}:DataW H:=.agg [.nil]
def rdV{H:Type}:DataW H:=.agg [.lit (.int .i64 0),.lit (.int .i64 0),.lit (.int .i64 0)]
theorem aJc(os:Os)(started:os.Started)(H:Type)(enc:TypeId×Value->H)(F:Stop.Interp):
 ReturnsInHanded {} Tryz.checked os 4 .any ((OpenSpec.ofChange Rows.bodyDisjointAsSpecifiedSpec).preRow enc Tryz.prog Tryz.f4 Rows.bodyDisjointAsSpecifiedRow.domain false Rows.bodyDisjointAsSpecifiedRow.laid) (((OpenSpec.ofChange Rows.bodyDisjointAsSpecifiedSpec).at F).post enc Tryz.prog Tryz.f4 false true false false):=by
 refine returnsInHanded_of_row (C:=Tryz.checked) (s:=OpenSpec.ofChange Rows.bodyDisjointAsSpecifiedSpec) own started (by kernel_rfl) Tryz.func4
  ⟨World.laidAll Tryz.prog os gl,fun _ _=>0,⟨#[],#[aXu,aXu,bGl],[]⟩,World.laidAll_os _ _ _,World.shaped_of_ZipB (by kernel_rfl) (by kernel_rfl),rfl,(Input.okWide_of_okWideB (by kernel_rfl)).2,
    OpenSpec.preRow_of_cond 8 (x:=([rdC,rdC,rdV],[],[])) (by kernel_rfl) (by kernel_rfl) (fun k hk=>by cases hk) (by kernel_rfl) (by rw[show Rows.bodyDisjointAsSpecifiedRow.laid=gl from rfl,MakeChecks.laidMetH_plain _ _ _ (by kernel_rfl)];exact laidMet_laidAll _ (by kernel_rfl) (by kernel_rfl)),by
    simp only[Assume.holds]
    exact⟨by simp,by simp,by simp,by simp,by simp⟩⟩ ?_
 intro W base args ds gs before fu hW _ eU _ hL _ _;have hL:laidMetH Tryz.prog gl W:=hL
 have JB:∀(j:Nat) t v,Tryz.f4.params[j]?=some t->args[j]?=some v->Value.okWide Tryz.prog W .any base t v:=fu
 have hW':=hW;obtain⟨p,q,hA0,hV,rfl,fe,RH⟩:=hW;have hA:DataW.TrodAll enc Tryz.prog W 0 (fun _=>true) true Tryz.f4.params.toList args.toList ds p:=hA0;rw[Tryz.params4] at hA JB;obtain⟨v0,v1,v2,d0,d1,d2,p0,p1,p2,rfl,rfl,rfl,h0,h1,h2⟩:=trodAll_three hA;obtain⟨rfl,rfl⟩:=trodVars_none hV;have k0:=JB 0 65 v0 rfl rfl;have k1:=JB 1 65 v1 rfl rfl;have k2:=JB 2 33 v2 rfl rfl;simp only[Value.okWide,Tryz.underlying65] at k0;simp only[Value.okWide,Tryz.underlying65] at k1;simp only[Value.okWide,Tryz.underlying33] at k2;obtain⟨c0,rfl,om,_⟩:=k0;obtain⟨c1,rfl,Xi,_⟩:=k1;obtain⟨c2,rfl,yA,_⟩:=k2;have h0k:=h0;have h1k:=h1;have h2k:=h2;obtain⟨f0,h0⟩:=h0;obtain⟨f1,h1⟩:=h1;obtain⟨f2,h2⟩:=h2
 replace h0:DataW.trod enc Tryz.prog W 0 (fun _=>true) true f0 65 c0.toList=some (d0,p0):=h0
 replace h1:DataW.trod enc Tryz.prog W 0 (fun _=>true) true f1 65 c1.toList=some (d1,p1):=h1
 replace h2:DataW.trod enc Tryz.prog W 0 (fun _=>true) true f2 33 c2.toList=some (d2,p2):=h2
 have l0:c0.toList.length=1:=by rw[Cz,om];kernel_rfl
 have l1:c1.toList.length=1:=by rw[Cz,Xi];kernel_rfl
 have l2:c2.toList.length=3:=by rw[Cz,yA];kernel_rfl
 obtain⟨a,ha,hav⟩:=Mq false l0 h0;obtain⟨b,hb,hbv⟩:=Mq false l1 h1;obtain⟨d,Xj⟩:=aDj false l2 h2
 have hS:=(aIx ha hb d ⟨0,.nil⟩).2 (uT false W) W [.agg c0,.agg c1,.agg c2] (aIw hL)
  ⟨rfl,fun j hj=>match j,hj with
    |0,_=>hav
    |1,_=>hbv
    |2,_=>Xj
    |n+3,h=>absurd h A2⟩
 refine hS.mono fun e W' ⟨G',hw,hE,hO⟩=>?_
 have he:e=.returned (.bool true):=by
  cases e with
  |returned u=>
   cases hO with
   |bool b=>rfl
  |_=>exact hO.elim
 subst he
 have same:∀x:MemPlace,x.block<W.heap.size->W.sameAt W' x:=fun x hx=>by
  cases x with
  |cell b o=>have PD:b<W.heap.size:=hx;show W'.cell? ⟨b,o,none⟩=W.cell? ⟨b,o,none⟩;simp only[World.cell?,IK hE PD]
  |map b=>exact IK hE hx
 have dT:∀x∈(p0++p1++p2)++[],x.block<W.heap.size:=fun x hx=>by simpa using hW'.lt x hx
 have stay:∀{sp:Nat->Bool} {t:TypeId} {v:Value} {d:DataW H} {ps:List MemPlace},Tryz.prog.readableRec t=true->t<Tryz.prog.types.size->DataW.Trod enc Tryz.prog W 0 (fun _=>true) true t v d ps->(∀x∈ps,x∈(p0++p1++p2)++[])->
  (∀x∈(p0++p1++p2)++[],sp x.block=true)->DataW.Trod enc Tryz.prog W' 0 sp true t v d ps:=fun hr rY h iE Uu=>
  WideElems.Trod_stays laidOut hr rY h (fun x hx=>same x (dT x (iE x hx))) fun x hx=>Uu x (iE x hx)
 refine⟨_,rfl,Wn (pa:=p0++p1++p2) (pv:=[]) hE hW' (fun _ _ _=>trodAll_mk1 (shut_bool Tryz.underlying4 _)) (fun sp Uu=>?_) (fun _ _=>rfl) A2 (ok_one (by kernel_rfl) rfl (okWide_bool_mk Tryz.underlying4 _))⟩;rw[Dx]
 exact trodAll_mk3 (stay (by kernel_rfl) (Ed (by kernel_rfl)) h0k (fun x hx=>by simp[hx]) Uu) (stay (by kernel_rfl) (Ed (by kernel_rfl)) h1k (fun x hx=>by simp[hx]) Uu)
  (stay (by kernel_rfl) (Ed (by kernel_rfl)) h2k (fun x hx=>by simp[hx]) Uu)
end
end Go.Proofs.YtogfcjbgeebfkaaGreatDoor
