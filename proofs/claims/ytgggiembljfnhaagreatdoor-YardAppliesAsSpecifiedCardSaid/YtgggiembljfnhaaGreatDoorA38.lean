/-
  Part of the proof of statement 11
-/
import Derived.Test.YtgggiembljfnhaaGreatDoorA07
import Derived.Test.YtgggiembljfnhaaGreatDoorA25
import Derived.Test.YtgggiembljfnhaaGreatDoorA35
import Derived.Test.YtgggiembljfnhaaGreatDoorA37
set_option linter.unusedVariables false
set_option linter.unusedSimpArgs false
set_option maxRecDepth 100000
set_option maxHeartbeats 16000000
namespace Go.Proofs.YtgggiembljfnhaaGreatDoor
open Go Go.Av Go.aP
open Go.ChangeShapes Go.WideShapes Go.ChangeAt Go.RowKit
def bDr:Value:=.agg #[.int .i64 0,.int .i64 0,.int .i64 0,.slice none 0 0,.slice none 0 0,.slice none 0 0]
def bDp:Value:=.agg #[.int .i64 0,.int .i64 0,.slice none 0 0]
def bDq:Value:=.agg #[.slice none 0 0,.slice none 0 0,.slice none 0 0,.slice none 0 0,.slice none 0 0,.slice none 0 0]
def z64 {H:Type}:DataW H:=.lit (.int .i64 0)
def rdY {H:Type}:DataW H:=.agg [z64,.agg [z64,z64],.nil,.nil,.nil]
def rdO {H:Type}:DataW H:=.agg [z64,z64,.nil]
def rdS {H:Type}:DataW H:=.agg [.nil,.nil,.nil,.nil,.nil,.nil]
theorem x7 (os:Os) (started:os.Started) (H:Type) (enc:TypeId×Value->H) (F:Stop.Interp):
 ReturnsInHanded {} Tryz.checked os 3 .any ((OpenSpec.ofChange Rows.yardAppliesAsSpecifiedSpec).preRow enc Tryz.prog Tryz.f3 Rows.yardAppliesAsSpecifiedRow.domain false Rows.yardAppliesAsSpecifiedRow.laid) (((OpenSpec.ofChange Rows.yardAppliesAsSpecifiedSpec).at F).post enc Tryz.prog Tryz.f3 false true false false):=by
 refine returnsInHanded_of_row (C:=Tryz.checked) (s:=OpenSpec.ofChange Rows.yardAppliesAsSpecifiedSpec) own started (by kernel_rfl) Tryz.func3
  ⟨World.laidAll Tryz.prog os Zy,fun _ _=>0,⟨#[],#[bDr,bDq,bDp],[]⟩,World.laidAll_os _ _ _,World.shaped_of_ZipB (by kernel_rfl) (by kernel_rfl),rfl,(Input.okWide_of_okWideB (by kernel_rfl)).2,
    OpenSpec.preRow_of_cond 8 (x:=([rdY,rdS,rdO],[],[])) (by kernel_rfl) (by kernel_rfl) (fun k hk=>by cases hk) (by kernel_rfl) (by rw[show Rows.yardAppliesAsSpecifiedRow.laid=Zy from rfl,MakeChecks.laidMetH_plain _ _ _ (by kernel_rfl)];exact laidMet_laidAll _ (by kernel_rfl) (by kernel_rfl)),by
    simp only[Assume.holds]
    exact⟨by simp,by simp,by simp,by simp,by simp⟩⟩ ?_
 intro W base args ds gs before Zq hW _ eU _ hL _ _;have hL:laidMetH Tryz.prog Zy W:=hL
 have Po:∀(j:Nat) t v,Tryz.f3.params[j]?=some t->args[j]?=some v->Value.okWide Tryz.prog W .any base t v:=Zq
 have hW':=hW;obtain⟨p,q,hA0,hV,rfl,Zg,Pj⟩:=hW;have hA:DataW.TrodAll enc Tryz.prog W 0 (fun _=>true) true Tryz.f3.params.toList args.toList ds p:=hA0;rw[Tryz.params3] at hA Po;obtain⟨v0,v1,v2,d0,d1,d2,p0,p1,p2,rfl,rfl,rfl,h0,h1,h2⟩:=trodAll_three hA;obtain⟨rfl,rfl⟩:=trodVars_none hV;have k0:=Po 0 27 v0 rfl rfl;have k1:=Po 1 32 v1 rfl rfl;have k2:=Po 2 34 v2 rfl rfl;simp only[Value.okWide,Tryz.underlying27] at k0;simp only[Value.okWide,Tryz.underlying32] at k1;simp only[Value.okWide,Tryz.underlying34] at k2;obtain⟨c0,rfl,hc0,_⟩:=k0;obtain⟨c1,rfl,SO,_⟩:=k1;obtain⟨c2,rfl,AM,_⟩:=k2;have h0k:=h0;have h1k:=h1;have h2k:=h2;obtain⟨f0,h0⟩:=h0;obtain⟨f1,h1⟩:=h1;obtain⟨f2,h2⟩:=h2
 replace h0:DataW.trod enc Tryz.prog W 0 (fun _=>true) true f0 27 c0.toList=some (d0,p0):=h0
 replace h1:DataW.trod enc Tryz.prog W 0 (fun _=>true) true f1 32 c1.toList=some (d1,p1):=h1
 replace h2:DataW.trod enc Tryz.prog W 0 (fun _=>true) true f2 34 c2.toList=some (d2,p2):=h2
 have l0:c0.toList.length=6:=by rw[Cu,hc0];kernel_rfl
 have l1:c1.toList.length=6:=by rw[Cu,SO];kernel_rfl
 have l2:c2.toList.length=3:=by rw[Cu,AM];kernel_rfl
 obtain⟨g,r0,r1,tv,rv,uv,ts,rs,us,mR,lR,mS,ht,hr,hu,hy⟩:=kl false l0 h0;obtain⟨s,hs,_,hsv⟩:=Xy false l1 h1;obtain⟨o,ho,hov⟩:=aGj false l2 h2
 have hS:=(xy nc (g:=g) (r0:=r0) (r1:=r1) mR lR mS ht (fun r h=>(hr r h).1) (fun r h=>(hu r h).1) ho.pv ho.p7 ho.len hs ⟨0,.nil⟩).2 (mL false W) W [.agg c0,.agg c1,.agg c2] (aFk hL)
  ⟨rfl,fun j hj=>match j,hj with
    |0,_=>hy
    |1,_=>hsv
    |2,_=>hov
    |n+3,h=>absurd h (by simp)⟩
 refine hS.mono fun e W' ⟨G',hw,hE,hO⟩=>?_
 have he:e=.returned (.bool true):=by
  cases e with
  |returned u=>
   cases hO with
   |bool b=>rfl
  |_=>exact hO.elim
 subst he
 have same:∀x:MemPlace,x.block<W.heap.size->W.sameAt W' x:=fun x hx=>by
  cases x with
  |cell b o=>have Qy:b<W.heap.size:=hx;show W'.cell? ⟨b,o,none⟩=W.cell? ⟨b,o,none⟩;simp only[World.cell?,HJ hE Qy]
  |map b=>exact HJ hE hx
 have fF:∀x∈(p0++p1++p2)++[],x.block<W.heap.size:=fun x hx=>by simpa using hW'.lt x hx
 have stay:∀{sp:Nat->Bool} {t:TypeId} {v:Value} {d:DataW H} {ps:List MemPlace},Tryz.prog.readableRec t=true->t<Tryz.prog.types.size->DataW.Trod enc Tryz.prog W 0 (fun _=>true) true t v d ps->(∀x∈ps,x∈(p0++p1++p2)++[])->
  (∀x∈(p0++p1++p2)++[],sp x.block=true)->DataW.Trod enc Tryz.prog W' 0 sp true t v d ps:=fun hr qY h gR xk=>
  WideElems.Trod_stays laidOut hr qY h (fun x hx=>same x (fF x (gR x hx))) fun x hx=>xk x (gR x hx)
 refine⟨_,rfl,VV (pa:=p0++p1++p2) (pv:=[]) hE hW' (fun _ _ _=>trodAll_mk1 (shut_bool Tryz.underlying4 _)) (fun sp xk=>?_) (fun _ _=>rfl) (by simp) (ok_one (by kernel_rfl) rfl (okWide_bool_mk Tryz.underlying4 _))⟩;rw[Eb]
 exact trodAll_mk3 (stay (by kernel_rfl) (Cp (by kernel_rfl)) h0k (fun x hx=>by simp[hx]) xk) (stay (by kernel_rfl) (Cp (by kernel_rfl)) h1k (fun x hx=>by simp[hx]) xk)
  (stay (by kernel_rfl) (Cp (by kernel_rfl)) h2k (fun x hx=>by simp[hx]) xk)
end Go.Proofs.YtgggiembljfnhaaGreatDoor
