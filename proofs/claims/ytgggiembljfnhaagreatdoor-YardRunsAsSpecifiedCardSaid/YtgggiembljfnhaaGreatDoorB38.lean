/-
  Part of the proof of statement 12
-/
import Derived.Test.YtgggiembljfnhaaGreatDoorB07
import Derived.Test.YtgggiembljfnhaaGreatDoorB25
import Derived.Test.YtgggiembljfnhaaGreatDoorB35
import Derived.Test.YtgggiembljfnhaaGreatDoorB37
set_option linter.unusedVariables false
set_option linter.unusedSimpArgs false
set_option maxRecDepth 100000
set_option maxHeartbeats 16000000
namespace Go.Proofs.YtgggiembljfnhaaGreatDoor
open Go Go.Av Go.aP
open Go.ChangeShapes Go.WideShapes Go.ChangeAt Go.RowKit
def bEj:Value:=.agg #[.int .i64 0,.int .i64 0,.int .i64 0,.slice none 0 0,.slice none 0 0,.slice none 0 0]
def z64 {H:Type}:DataW H:=.lit (.int .i64 0)
def rdY {H:Type}:DataW H:=.agg [z64,.agg [z64,z64],.nil,.nil,.nil]
theorem yw (os:Os) (started:os.Started) (H:Type) (enc:TypeId×Value->H) (F:Stop.Interp):
 ReturnsInHanded {} Tryz.checked os 4 .any ((OpenSpec.ofChange Rows.yardRunsAsSpecifiedSpec).preRow enc Tryz.prog Tryz.f4 Rows.yardRunsAsSpecifiedRow.domain false Rows.yardRunsAsSpecifiedRow.laid) (((OpenSpec.ofChange Rows.yardRunsAsSpecifiedSpec).at F).post enc Tryz.prog Tryz.f4 false true false false):=by
 refine returnsInHanded_of_row (C:=Tryz.checked) (s:=OpenSpec.ofChange Rows.yardRunsAsSpecifiedSpec) own started (by kernel_rfl) Tryz.func4
  ⟨World.laidAll Tryz.prog os ah,fun _ _=>0,⟨#[],#[bEj,.slice none 0 0],[]⟩,World.laidAll_os _ _ _,World.shaped_of_ZipB (by kernel_rfl) (by kernel_rfl),rfl,(Input.okWide_of_okWideB (by kernel_rfl)).2,
    OpenSpec.preRow_of_cond 8 (x:=([rdY,.nil],[],[])) (by kernel_rfl) (by kernel_rfl) (fun k hk=>by cases hk) (by kernel_rfl) (by rw[show Rows.yardRunsAsSpecifiedRow.laid=ah from rfl,MakeChecks.laidMetH_plain _ _ _ (by kernel_rfl)];exact laidMet_laidAll _ (by kernel_rfl) (by kernel_rfl)),by
    simp only[Assume.holds]
    exact⟨by simp,by simp,by simp,by simp,by simp⟩⟩ ?_
 intro W base args ds gs before Zt hW _ eW _ hL _ _;have hL:laidMetH Tryz.prog ah W:=hL
 have Sl:∀(j:Nat) t v,Tryz.f4.params[j]?=some t->args[j]?=some v->Value.okWide Tryz.prog W .any base t v:=Zt
 have hW':=hW;obtain⟨p,q,hA0,hV,rfl,Zj,Pm⟩:=hW;have hA:DataW.TrodAll enc Tryz.prog W 0 (fun _=>true) true Tryz.f4.params.toList args.toList ds p:=hA0;rw[Tryz.params4] at hA Sl;obtain⟨v0,v1,d0,d1,p0,p1,rfl,rfl,rfl,h0,h1⟩:=trodAll_two hA;obtain⟨rfl,rfl⟩:=trodVars_none hV;have k0:=Sl 0 27 v0 rfl rfl;have k1:=Sl 1 45 v1 rfl rfl;simp only[Value.okWide,Tryz.underlying27] at k0;obtain⟨c0,rfl,hc0,_⟩:=k0
 have k1':Cell.okWide Tryz.prog W .any base 45 v1:=by simpa only[Value.okWide,Tryz.underlying45] using k1
 have h0k:=h0;have h1k:=h1;obtain⟨f0,h0⟩:=h0;obtain⟨f1,h1⟩:=h1
 replace h0:DataW.trod enc Tryz.prog W 0 (fun _=>true) true f0 27 c0.toList=some (d0,p0):=h0
 have SU:v1.cells.toList=[v1]:=by cases v1<;>simp[Cell.okWide,Cell.ok,Tryz.underlying45] at k1'<;>rfl
 rw[SU] at h1;have l0:c0.toList.length=6:=by rw[Dc,hc0];kernel_rfl
 obtain⟨g,r0,r1,tv,rv,uv,ts,rs,us,mK,mF,nF,ht,hr,hu,hy⟩:=km false l0 h0;obtain⟨av,l,hav,hl,hlv,_⟩:=aAc false Tryz.underlying45 h1
 have hS:=(yq nq (g:=g) (r0:=r0) (r1:=r1) mK mF nF ht (fun r h=>(hr r h).1) (fun r h=>(hu r h).1) hav hl ⟨0,.nil⟩).2 (oR false W) W [.agg c0,v1] (aGa hL)
  ⟨rfl,fun j hj=>match j,hj with
    |0,_=>hy
    |1,_=>hlv
    |n+2,h=>absurd h (by simp)⟩
 refine hS.mono fun e W' ⟨G',hw,hE,hO⟩=>?_
 have he:e=.returned (.bool true):=by
  cases e with
  |returned u=>
   cases hO with
   |bool b=>rfl
  |_=>exact hO.elim
 subst he
 have same:∀x:MemPlace,x.block<W.heap.size->W.sameAt W' x:=fun x hx=>by
  cases x with
  |cell b o=>have RC:b<W.heap.size:=hx;show W'.cell? ⟨b,o,none⟩=W.cell? ⟨b,o,none⟩;simp only[World.cell?,HG hE RC]
  |map b=>exact HG hE hx
 have fJ:∀x∈(p0++p1)++[],x.block<W.heap.size:=fun x hx=>by simpa using hW'.lt x hx
 have stay:∀{sp:Nat->Bool} {t:TypeId} {v:Value} {d:DataW H} {ps:List MemPlace},Tryz.prog.readableRec t=true->t<Tryz.prog.types.size->DataW.Trod enc Tryz.prog W 0 (fun _=>true) true t v d ps->(∀x∈ps,x∈(p0++p1)++[])->
  (∀x∈(p0++p1)++[],sp x.block=true)->DataW.Trod enc Tryz.prog W' 0 sp true t v d ps:=fun hr rB h gT hsp=>
  WideElems.Trod_stays laidOut hr rB h (fun x hx=>same x (fJ x (gT x hx))) fun x hx=>hsp x (gT x hx)
 refine⟨_,rfl,VZ (pa:=p0++p1) (pv:=[]) hE hW' (fun _ _ _=>trodAll_mk1 (shut_bool Tryz.underlying4 _)) (fun sp hsp=>?_) (fun _ _=>rfl) (by simp) (ok_one (by kernel_rfl) rfl (okWide_bool_mk Tryz.underlying4 _))⟩;exact trodAll_mk2 (stay (by kernel_rfl) (Cu (by kernel_rfl)) h0k (fun x hx=>by simp[hx]) hsp) (stay (by kernel_rfl) (Cu (by kernel_rfl)) h1k (fun x hx=>by simp[hx]) hsp)
end Go.Proofs.YtgggiembljfnhaaGreatDoor
