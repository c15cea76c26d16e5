/-
  CONTRACTS: Decode of nil.
-/
import Derived.Test.YtfdaiidepcbemaaDoorA40
set_option linter.unusedVariables false
set_option linter.unusedSimpArgs false
section
namespace Go.Proofs.YtfdaiidepcbemaaDoor
open Go Go.Av Go.Av.Pr
set_option maxRecDepth 100000
attribute [local congr] FD2_congr stepK_congr condK_congr guardK_congr FC_congr FOps_congr thenF_congr inBlockF_congr
attribute [local irreducible] FC FOps FD2
theorem getints_nil (H : Heap) : Sound Tryd.prog gv 50 [.nilsl] H (.ret (.tup [.nilsl, .int .i64 0, .int .i64 10])) H := by
  obtain ⟨H', hS⟩ := run_ok (f := 50) (args := [.nilsl]) (out := .ret (.tup [.nilsl, .int .i64 0, .int .i64 10])) (by kernel_rfl)
  exact hS.frame gfree rfl (tk := none) (fun k' hk' => by cases hk') (n := 2) H (v' := .tup [.nilsl, .int .i64 0, .int .i64 10]) rfl
theorem rints_nil {id : Nat} {H : Heap} (hg : H.get id = some (.cells [.nilsl, .int .i64 0] false)) : Sound Tryd.prog gv 29 [.ref id 0, .int .i64 7] H (.pan (.iface 25 (.int .i64 11))) H := by
  refine Sound_FC is29 (by unfold F29 om oo; simp) ?_
  show FC Tryd.prog gv 40 F29.body _ _ _ (retF [.tmp 4] _)
  unfold F29 om oo
  have hsl : sliceA 1 .nilsl (some 0) none none = some .nilsl := rfl
  have hz : asNat (.int .i64 0) = some 0 := rfl
  refine FC_seq fun K hK => ?_
  simp only [symA, sy, AV.cells, AV.isTup, startF, Nat.reduceLT, Nat.reduceEqDiff, Nat.reduceAdd]
  apply hK
  clear hK K
  refine FC_seq fun K hK => ?_
  refine FC_draw0 (by decide) ?_
  simp only [symA, sy, AV.cells, AV.isTup, startF, Nat.reduceLT, Nat.reduceEqDiff, Nat.reduceAdd, symF, symFp, FD2_nil, ROp.readsId, idOf, reduceCtorEq, false_implies, implies_true, forall_const, true_and, and_true, List.not_mem_nil, List.mem_cons, or_false, false_or, Prod.mk.injEq, forall_eq, forall_eq_or_imp, forall_eq', Option.some.injEq, sn, Nat.reduceLeDiff, Nat.reduceMul, Nat.reduceSub, Nat.reduceMod, Nat.reduceDiv, sl, splice, cellsAt_get hg, optNat, hz, hsl, Option.isSome_none]
  refine FD2_call (by decide) (by simp only [sm, symB, Nat.reduceEqDiff, startF]) (getints_nil H) (Nat.le_refl _) (fun y _ hy => by simp at hy) ?_
  simp only [symA, sy, AV.cells, AV.isTup, startF, Nat.reduceLT, Nat.reduceEqDiff, Nat.reduceAdd, symF, symFp, FD2_nil, ROp.readsId, idOf, reduceCtorEq, false_implies, implies_true, forall_const, true_and, and_true, List.not_mem_nil, List.mem_cons, or_false, false_or, Prod.mk.injEq, forall_eq, forall_eq_or_imp, forall_eq', Option.some.injEq, sn, Nat.reduceLeDiff, Nat.reduceMul, Nat.reduceSub, Nat.reduceMod, Nat.reduceDiv]
  apply hK
  clear hK K
  refine FC_seq fun K hK => ?_
  simp only [symA, sy, AV.cells, AV.isTup, startF, Nat.reduceLT, Nat.reduceEqDiff, Nat.reduceAdd, show ((10 : Int) != 0) = true from rfl]
  refine FOps_panic (t := 25) (v := .int .i64 11) (by simp only [symB, ne_eq, Nat.reduceEqDiff, not_false_eq_true]) ?_
  exact ⟨rfl, rfl, rfl⟩
theorem decnil_body : FC Tryd.prog gv 109 F11.body (startF [.nilsl]) [] ⟨0, .nil⟩ (retFD Tryd.prog gv [.cell 2 true 39, .cell 3 false 1, .cell 4 false 1] (decR [])) := by
  unfold F11 om oo
  have hz : [AV.int .i64 0, .int .i64 0, .int .i64 0, .int .i64 0, .int .i64 0, .nilsl, .int .u8 0, .int .u8 0, .int .u8 0, .int .u8 0, .int .u8 0, .int .u8 0, .int .u8 0, .int .u8 0, .int .u8 0, .int .u8 0, .int .u8 0, .int .u8 0, .int .u8 0, .int .u8 0, .int .u8 0, .int .u8 0, .int .i64 0, .int .u8 0, .int .u8 0, .int .u8 0, .int .u8 0, .int .u8 0, .int .u8 0, .int .u8 0, .int .u8 0, .int .u8 0, .int .u8 0, .int .u8 0, .int .u8 0, .int .u8 0, .int .u8 0, .int .u8 0, .int .u8 0] = entC .nilsl ent0 := rfl
  rw [hz]
  have hzl : (entC .nilsl ent0).length = 39 := rfl
  refine FC_seq fun K hK => ?_
  simp only [symA, sy, AV.cells, AV.isTup, startF, Nat.reduceLT, Nat.reduceEqDiff, Nat.reduceAdd, Heap.cellsAt, sh]
  apply hK
  clear hK K
  refine FC_seq fun K hK => ?_
  simp only [symA, sy, AV.cells, AV.isTup, startF, Nat.reduceLT, Nat.reduceEqDiff, Nat.reduceAdd]
  refine FOps_defer (fid := 28) (fs := []) (cs := [.ref 0 0, .ref 1 0, .ref 2 0]) (by simp only [symB, ne_eq, Nat.reduceEqDiff, not_false_eq_true, List.map_cons, List.map_nil]) (by simp only [List.map_nil, List.append_nil, List.nil_append]; rfl) ?_
  simp only [symA, sy, AV.cells, AV.isTup, startF, Nat.reduceLT, Nat.reduceEqDiff, Nat.reduceAdd]
  apply hK
  clear hK K
  refine FC_seq fun K hK => ?_
  simp only [symA, sy, AV.cells, AV.isTup, startF, Nat.reduceLT, Nat.reduceEqDiff, Nat.reduceAdd, sn, Nat.reduceLeDiff, Nat.reduceMul, Nat.reduceSub, Nat.reduceMod, Nat.reduceDiv, sl, splice, Heap.cellsAt, sh, fop, fillA]
  apply hK
  clear hK K
  obtain ⟨A, hA⟩ : ∃ A, (((Heap.alloc ⟨0, .nil⟩ (.cells (entC .nilsl ent0) false)).alloc (.cells [.int .i64 0] false)).alloc (.cells [.int .i64 0] false)).alloc (.cells [.nilsl, .int .i64 0] false) = A := ⟨_, rfl⟩
  have hAn : A.next = 4 := by rw [← hA]; rfl
  have g0 : A.get 0 = some (.cells (entC .nilsl ent0) false) := by rw [← hA]; simp only [Heap.cellsAt, sh, Nat.reduceAdd, Nat.reduceEqDiff]
  have g1 : A.get 1 = some (.cells [.int .i64 0] false) := by rw [← hA]; simp only [Heap.cellsAt, sh, Nat.reduceAdd, Nat.reduceEqDiff]
  have g2 : A.get 2 = some (.cells [.int .i64 0] false) := by rw [← hA]; simp only [Heap.cellsAt, sh, Nat.reduceAdd, Nat.reduceEqDiff]
  have g3 : A.get 3 = some (.cells [.nilsl, .int .i64 0] false) := by rw [← hA]; simp only [Heap.cellsAt, sh, Nat.reduceAdd, Nat.reduceEqDiff]
  rw [hA]
  clear hA
  refine FC_seq fun K hK => ?_
  simp only [symA, sy, AV.cells, AV.isTup, startF, Nat.reduceLT, Nat.reduceEqDiff, Nat.reduceAdd]
  refine FOps_call_pan (by simp only [List.map_cons, List.map_nil, symB, ne_eq, Nat.reduceEqDiff, not_false_eq_true]) (rints_nil g3) ?_
  exact dec_fail (by rfl) (by simp only [symB, ne_eq, Nat.reduceEqDiff, not_false_eq_true]) (by simp only [symB, ne_eq, Nat.reduceEqDiff, not_false_eq_true]) (by simp only [symB, ne_eq, Nat.reduceEqDiff, not_false_eq_true]) g0 g1 g2 hzl rfl rfl
/-- log.Decode of nil -/
theorem dec_nil (H : Heap) : Sound Tryd.prog gv 11 [.nilsl] H (.ret (.tup [.agg (entC .nilsl ent0), .int .i64 0, .int .i64 11])) H := by
  obtain ⟨out, H', ⟨v, rfl, hv⟩, hS⟩ := Sound_of_FCD mixed is11 (args := [.nilsl]) (by unfold F11 om oo; simp) decnil_body
  have hv0 : v = .nilsl := hv.2 (by rfl)
  subst hv0
  refine hS.frame gfree (by rfl) (tk := none) (fun k hk => by cases hk) (n := 2) H (v' := .tup [.agg (entC .nilsl ent0), .int .i64 0, .int .i64 11]) ?_
  rfl
/-- ref46.Decode of nil -/
theorem rdec_nil (H : Heap) : Sound Tryd.prog gv 12 [.nilsl] H (.ret (.agg (out41 .nilsl rdFail))) H := by
  obtain ⟨H', hS⟩ := run_ok (f := 12) (args := [.nilsl]) (out := .ret (.agg (out41 .nilsl rdFail))) (by kernel_rfl)
  exact hS.frame gfree rfl (tk := none) (fun k' hk' => by cases hk') (n := 1) H (v' := .agg (out41 .nilsl rdFail)) rfl
theorem rdEnt_nil : rdEnt [] = rdFail := rfl
end Go.Proofs.YtfdaiidepcbemaaDoor
end
