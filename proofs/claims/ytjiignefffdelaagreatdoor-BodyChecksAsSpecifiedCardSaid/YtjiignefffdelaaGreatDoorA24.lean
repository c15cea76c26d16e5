/-
  Parts of the proof of statement 4: AvSh, KG
-/
import Derived.Test.YtjiignefffdelaaGreatDoorA21
import Derived.Test.YtjiignefffdelaaGreatDoorA19
import Derived.Test.YtjiignefffdelaaGreatDoorProg
import Derived.KernelRfl
set_option linter.unusedVariables false
set_option linter.defProp false
set_option maxRecDepth 100000
set_option maxHeartbeats 16000000
namespace Go.Av
section
def zP:=And.intro bCt (And.intro aC bCu)
def zG:=And.intro bCt <| And.intro sy <| And.intro aJz <| And.intro @AV.cells.eq_1 <| And.intro @AV.cells.eq_2 <| And.intro @AV.isTup.eq_1 <| And.intro @AV.isTup.eq_2 <| And.intro @fop.eq_1 <| And.intro @fop.eq_2 <| And.intro @fop.eq_3 <| And.intro @fop.eq_4 <| And.intro @fop.eq_5 <| And.intro @fop.eq_6 <| And.intro @unA.eq_1 <| And.intro @unA.eq_2 <| And.intro @unA.eq_3 <| And.intro @unA.eq_4 <| And.intro @unA.eq_5 <| And.intro @unA.eq_6 @startF.eq_1
def zI:=And.intro @Heap.cellsAt.eq_1 <| And.intro sh <| And.intro sn <| And.intro sl <| And.intro @splice.eq_1 <| And.intro @fillA.eq_1 <| And.intro @fillA.eq_2 <| And.intro @litA.eq_1 <| And.intro @litA.eq_2 <| And.intro Bool.not_true <| And.intro Bool.not_false <| And.intro @false_implies <| And.intro @implies_true.{0} <| And.intro @implies_true.{1} <| And.intro aXj <| And.intro iz <| And.intro cOl <| And.intro @AV.cells.eq_1 <| And.intro @AV.cells.eq_2 <| And.intro @AV.isTup.eq_1 <| And.intro @AV.isTup.eq_2 <| And.intro @fop.eq_1 <| And.intro @fop.eq_2 <| And.intro @fop.eq_3 <| And.intro @fop.eq_4 <| And.intro @fop.eq_5 @fop.eq_6
def zD:=And.intro @ROp.fresh.eq_1 <| And.intro @ROp.fresh.eq_2 <| And.intro @ROp.fresh.eq_3 <| And.intro @ROp.fresh.eq_4 <| And.intro @ROp.fresh.eq_5 <| And.intro @ROp.fresh.eq_6 <| And.intro bFp <| And.intro bCv <| And.intro @aHe <| And.intro @ROp.readsId.eq_1 <| And.intro @ROp.readsId.eq_2 <| And.intro @ROp.readsId.eq_3 <| And.intro @ROp.readsId.eq_4 <| And.intro @ROp.readsId.eq_5 <| And.intro @idOf.eq_1 <| And.intro @idOf.eq_2 <| And.intro @idOf.eq_3 <| And.intro @idOf.eq_4 <|
 And.intro @false_implies <| And.intro @implies_true.{0} <| And.intro @implies_true.{1} <| And.intro @forall_const.{0} <| And.intro @forall_const.{1} <| And.intro @true_and <| And.intro @and_true <| And.intro @List.not_mem_nil.{0} <| And.intro @List.mem_cons.{0} <| And.intro @or_false <| And.intro @false_or <| And.intro @Prod.mk.injEq.{0,0} <| And.intro @forall_eq.{1} <| And.intro @forall_eq_or_imp.{1} <| And.intro @forall_eq'.{1} @Option.some.injEq.{0}
def zR:=And.intro @resFs.eq_1 <| And.intro @resFs.eq_2 <| And.intro @resF.eq_1 <| And.intro @resF.eq_2 <| And.intro zG zI
section
variable {P:Program} {g:Genv} {n:Nat} {f:Slt} {H:Heap} {d:Nat} {fid:FuncId} {azs:List Arg} {args:List AV} {v:AV} {H':Heap}
theorem bF {r:List ROper} {ds:List Dfr} {Q:FQ} (hS:Sound P g fid args H (.ret v) H') (h:FOps P g n r (upd f d v) ds H' Q) (hd:d<n:=by decide) (ha:azs.map (evF g f)=args:=by simp only[sm,aC,Nat.reduceEqDiff,startF]):
 FOps P g n (⟨some d,.call (.const (.func (.func fid) [] [])) azs,none⟩::r) f ds H Q:=aJj hd ha hS h
theorem cE {pairs:List (Nat×Nat)} {base i k:Nat} {rs:List ROper} {rd:List (Nat×Nat)} {ef:List (Nat×Heap×Heap)} {R:Slt→Heap→Prop} (hS:Sound P g fid args H (.ret v) H')
 (h:FD2 P g n pairs base (i+1) k rs rd ((i,H,H')::ef) (upd f d v) H' R) (hd:d<n:=by decide) (ha:azs.map (evF g f)=args:=by simp only[sm,aC,ne_eq,Nat.reduceEqDiff,not_false_eq_true]) (hn:H.next≤H'.next:=by exact Nat.le_refl _)
 (hr:∀x∈rd,(x.1,i)∈pairs→H.get x.2=H'.get x.2:=by exact fun _ _ _=>rfl):FD2 P g n pairs base i k (⟨some d,.call (.const (.func (.func fid) [] [])) azs,none⟩::rs) rd ef f H R:=oU hd ha hS hn hr h
end
end
end Go.Av
namespace Go.Proofs.YtjiignefffdelaaGreatDoor
open Go Go.Av
def gval:Nat→Option (List AV):=fun _=>none
def gv:Genv:=mkG Tryz.prog gval
theorem fit:Fit Tryz.prog gv:=aId (by kernel_rfl)
theorem bW:GFree gv:=fun n cs h=>by cases h
abbrev CW (f:Go.Func):={x:AFn // mkF Tryz.prog gv false f=some x}
theorem bN {k:FuncId} {f:Go.Func} (h:Tryz.prog.funcs[k]?=some f) (W:CW f) (h2:(f.name== "runtime.NumGoroutine")=false:=by kernel_rfl):FnIs Tryz.prog gv false k W.1:=bQ h h2 W.2
abbrev Fi (k:FuncId) {f:Go.Func} (W:CW f):=FnIs Tryz.prog gv false k W.1
theorem Sp {mu:Bool} {k:FuncId} {F:AFn} (hF:FnIs Tryz.prog gv mu k F) {args:List AV} {v:AV} (ha:freeL args=true) (hv:v.free=true)
 (h:FC Tryz.prog gv F.ntmps F.body (startF args) [] ⟨0,.nil⟩ (retF F.results fun o _=>o=.ret v)) (H:Heap) (hl:args.length≤F.ntmps:=by exact Nat.le_of_ble_eq_true rfl):Sound Tryz.prog gv k args H (.ret v) H:=
 tH fit bW hF hl ha hv h H
theorem eI {f:FuncId} {mu:Bool} {F:AFn} (hF:FnIs Tryz.prog gv mu f F) {args:List AV} (ha:args.length≤F.ntmps) {H H':Heap} {out:Out}
 (h:FC Tryz.prog gv F.ntmps F.body (startF args) [] H (retF F.results fun o h=>o=out∧h=H')) (hdt:F.body.det=true:=by first|rfl|decide):Sound Tryz.prog gv f args H out H':=by
 obtain⟨_,_,⟨rfl,rfl⟩,hS⟩:=cV fit hF ha h hdt;exact hS
end Go.Proofs.YtjiignefffdelaaGreatDoor
